/- RstN -/
import Derived.Test.YtlkajejbfojkeaaGreatDoorGRstK
set_option linter.unusedSimpArgs false
set_option linter.unusedVariables false
set_option maxRecDepth 100000
set_option maxHeartbeats 16000000
namespace Go.Proofs.YtlkajejbfojkeaaGreatDoor
open Go.RowKit
attribute [local go_sem] store_float
theorem ropen_yes1 (R : RLoc) (S : Sto) (f : SFact) (w : World) (hx : F64 f.ex) (h : RStoreAt R S w) (hok : fok f = true) (hk : f.k = 1) (hq : 0 ≤ f.aq ∧ f.aq ≤ 999999) (hpa : 0 ≤ f.pa ∧ f.pa ≤ 8) (h1 : f.an = S.node) (h2 : S.next ≤ f.aq) (h3 : S.acts.length < 8) (h4 : f.pa ≤ 0) :
    Calls Tryz.prog 22 #[.pointer (some ⟨R.sb,0,none⟩),factV f] w (RApplyEnds R {S with next:=f.aq+1,acts:=S.acts ++ [⟨f.an,f.aq,f.oc,f.dp,f.ex,f.pa,0,[]⟩]} 0 w):=by
 have hR:=fun W=>rright14_of f hx W
 rw[hok] at hR;obtain⟨a,cap,hv,hn,hr⟩:=part_row h.parts;obtain⟨aa,acap,hav,han,har⟩:=act_row h.len h.acts;have HR:=qq hR;have H:=qq h;have hsb:=h.blk.lt;obtain⟨n,hn'⟩:∃n,n=S.acts.length:=⟨_,rfl⟩
 have HE:=qq (fun W w2 v2 (x:SAct) (nx:Int) (h2:Below w.heap.size w W) (hr:x.regs=[]) (h3:W.grownBy w2 R.av.ownBlock) (h4:w2.ownsRow 0 116 8 v2 (n+1) (actsL S.acts R.rv ++actL x (.slice none 0 0))) h5=>radd_goes (nx:=nx) h h2 hr h3 (by rw[←hn'];exact h4) h5);have HO:=qq (fun W (hW:RStoreAt R S W)=>(show W.ownsRow 0 116 8 R.av n (actsL S.acts R.rv) by rw[hn'];exact hW.acts));rw[←hn'] at hav h3
 have HQ:=qq (fun W (hW:RStoreAt R S W)=>(show W.cell? ⟨R.sb,2,none⟩=some (.slice aa n acap) by rw[←hav];exact hW.blk.cell 2));obtain⟨m,hm⟩:∃m,m=S.parts.length:=⟨_,rfl⟩
 have HQ3:=qq (fun W (hW:RStoreAt R S W)=>(show W.cell? ⟨R.sb,3,none⟩=some (.slice a m cap) by rw[hm,←hv];exact hW.blk.cell 3));obtain⟨node,hnode⟩:∃x,x=S.node:=⟨_,rfl⟩
 obtain⟨nx0,hnx⟩:∃x,x=S.next:=⟨_,rfl⟩
 have HQ0:=qq (fun W (hW:RStoreAt R S W)=>(show W.cell? ⟨R.sb,0,none⟩=some (.int .i64 node) by rw[hnode];exact hW.blk.cell 0));have HQ1:=qq (fun W (hW:RStoreAt R S W)=>(show W.cell? ⟨R.sb,1,none⟩=some (.int .i64 nx0) by rw[hnx];exact hW.blk.cell 1));have HV:=qq hav;obtain⟨i0,ei,ez,es,eb⟩:=info_parts infoRAct;obtain⟨hq0,hq1⟩:=hq;obtain⟨hpa0,hpa8⟩:=hpa
 obtain⟨k,an,aq,rg,nd,pt,pr,oc,dp,pa,st,hw,de,ex⟩:=f;dsimp only at*;subst hk;dsimp only[factV,factC] at*;rw[←hnode] at h1;rw[←hnx] at h2;skip;subst h1;have d1:(an !=an)=false:=by simp
 have d2:decide (aq<nx0)=false:=decide_eq_false (by omega);have d3:decide ((8:Int)≤(n:Int))=false:=decide_eq_false (by omega);have d4:decide (8≤n)=false:=decide_eq_false (by omega);have d5:decide (0<pa)=false:=decide_eq_false (by omega);clear hR h hok hx hn hr hv han har hav hm hn' hnode hnx;go_enter Tryz.func22,Tryz.ntmps22;go_wp2_with fail
 (with_reducible refine(HR.out _).mono ?_)
 rintro e w1 ⟨rfl,hb1⟩;have B1:Below w.heap.size w w1:=below_then (by go_grown) hb1;have HK1:=qq ((Blk.fresh w #[.int .i64 1,an,aq,rg,nd,pt,pr,oc,dp,pa,st,hw,de,.float .f64 ex] 42 _ rfl).below hb1);have hz1:=hb1.size;simp only[World.size_alloc] at hz1;have hs1:R.sb<w1.heap.size:=by omega
 have hs2:w.heap.size<w1.heap.size:=by omega
 obtain⟨q,qf⟩:=HK1.out.out;have c0:=HQ0.out _ (H.out.below B1);have c1:=HQ1.out _ (H.out.below B1);have c2:=HQ.out _ (H.out.below B1);have c3:=HQ3.out _ (H.out.below B1);go_wp2_with fail;go_region;have B2:Below w.heap.size w (World.drew w1):=by go_grown
 have HK2:=qq (HK1.out.drew);have hz2:w1.heap.size≤(World.drew w1).heap.size:=by simp
 generalize(World.drew w1)=w2 at*;have H2:=qq (H.out.below B2);have hs3:R.sb<w2.heap.size:=by omega
 have hs4:w.heap.size<w2.heap.size:=by omega
 have hs5:R.sb<w2.heap.size+1:=by omega
 have hs6:w.heap.size<w2.heap.size+1:=by omega
 clear q qf c0 c1 c2 c3;obtain⟨q,qf⟩:=HK2.out.out;have c2:=HQ.out _ H2.out
 (try clear d1);(try clear d2);(try clear d3);(try clear d4);(try clear d5);(try clear d6)
 go_wp2_with fail
 go_region_law (refine step_app rfl (.tmp 78) (.tmp 83) 31 rfl 0 116 i0 (.agg #[.int .i64 0,.int .i64 0,.int .i64 0,.int .i64 0,.float .f64 0,.int .i64 0,.int .i64 0,.slice none 0 0]) 8 80 Tryz.underlying31 ei ez es eb rfl (by decide) (.slice aa n acap) n (actsL S.acts R.rv) (by rfl) (by rw[←HV.out];exact HO.out _ (H2.out.below (by go_grown))) ⟨w2.heap.size+1,0,none⟩ 1 1 (actL ⟨an,aq,oc,dp,ex,pa,0,[]⟩ (.slice none 0 0)) (by rfl) rfl (lit_cells (by first | exact(Blk.fresh _ _ _ _ (by simp)).drew | exact(Blk.fresh _ _ _ _ (by simp)).drew.drew | exact Blk.fresh _ _ _ _ (by simp))) (actL_one (x:=(⟨an,aq,oc,dp,ex,pa,0,[]⟩,.slice none 0 0)) ⟨none,0,0,rfl⟩) (by unfold maxLen;omega) (by omega) (Nat.zero_le _) ?_;intro v2 w3 hown2 hgrow2 hat2;rw[←HV.out] at hgrow2 hat2;have s2:w3.cell? ⟨R.sb,2,none⟩=some (.slice aa n acap):=hgrow2.cell (HQ.out _ (H2.out.below (by go_grown))) (fun e=>H2.out.ne_top.1 e.symm);have s1:w3.cell? ⟨R.sb,1,none⟩=some (.int .i64 nx0):=hgrow2.cell (HQ1.out _ (H2.out.below (by go_grown))) (fun e=>H2.out.ne_top.1 e.symm);have HS2:=qq ((H2.out.below (by go_grown)).blk.same hgrow2.size (hgrow2.block _ (H2.out.below (by go_grown)).blk.lt (fun e=>H2.out.ne_top.1 e.symm)));have f2:=HS2.out.free;have HK3:=qq ((HK2.out.below (by go_grown)).same hgrow2.size (hgrow2.block _ (HK2.out.below (by go_grown)).lt (fun e=>by have:=(H.out.acts.lt _ e.symm).2;omega)));have HZ:=qq (HE.out _ w3 v2 ⟨an,aq,oc,dp,ex,pa,0,[]⟩ (aq+1) (below_then B2 (by go_grown)) rfl hgrow2 hown2 hat2);obtain⟨a2,cap2,rfl⟩:=row_slice hown2;clear hown2 hgrow2 hat2 q qf c2;obtain⟨q2,qf2⟩:=HK3.out.out)
 all_goals go_wp2_with fail
 all_goals go_ret
 all_goals exact⟨rfl,HZ.out⟩
theorem ropen_yes2 (R : RLoc) (S : Sto) (f : SFact) (w : World) (hx : F64 f.ex) (h : RStoreAt R S w) (hok : fok f = true) (hk : f.k = 1) (hq : 0 ≤ f.aq ∧ f.aq ≤ 999999) (hpa : 0 ≤ f.pa ∧ f.pa ≤ 8) (h1 : f.an = S.node) (h2 : S.next ≤ f.aq) (h3 : S.acts.length < 8) (h4 : 0 < f.pa) (h5 : f.pa ≤ (S.parts.length : Int)) (h6 : schild S f.pa = none) :
    Calls Tryz.prog 22 #[.pointer (some ⟨R.sb,0,none⟩),factV f] w (RApplyEnds R {S with next:=f.aq+1,acts:=S.acts ++ [⟨f.an,f.aq,f.oc,f.dp,f.ex,f.pa,0,[]⟩]} 0 w):=by
 have hR:=fun W=>rright14_of f hx W
 rw[hok] at hR;obtain⟨a,cap,hv,hn,hr⟩:=part_row h.parts;obtain⟨aa,acap,hav,han,har⟩:=act_row h.len h.acts;have HR:=qq hR;have H:=qq h;have hsb:=h.blk.lt;have HC:=qq (fun W (hB:Below w.heap.size w W) (hp0:0≤f.pa - 1) (hp1:f.pa - 1≤100)=>rchild_of R S (f.pa - 1) W (h.below hB) (by omega) hp0 hp1);rw[show f.pa - 1+1=f.pa by omega,h6] at HC;dsimp only[oix] at HC
 obtain⟨n,hn'⟩:∃n,n=S.acts.length:=⟨_,rfl⟩
 have HE:=qq (fun W w2 v2 (x:SAct) (nx:Int) (h2:Below w.heap.size w W) (hr:x.regs=[]) (h3:W.grownBy w2 R.av.ownBlock) (h4:w2.ownsRow 0 116 8 v2 (n+1) (actsL S.acts R.rv ++actL x (.slice none 0 0))) h5=>radd_goes (nx:=nx) h h2 hr h3 (by rw[←hn'];exact h4) h5);have HO:=qq (fun W (hW:RStoreAt R S W)=>(show W.ownsRow 0 116 8 R.av n (actsL S.acts R.rv) by rw[hn'];exact hW.acts));rw[←hn'] at hav h3
 have HQ:=qq (fun W (hW:RStoreAt R S W)=>(show W.cell? ⟨R.sb,2,none⟩=some (.slice aa n acap) by rw[←hav];exact hW.blk.cell 2));obtain⟨m,hm⟩:∃m,m=S.parts.length:=⟨_,rfl⟩
 have HQ3:=qq (fun W (hW:RStoreAt R S W)=>(show W.cell? ⟨R.sb,3,none⟩=some (.slice a m cap) by rw[hm,←hv];exact hW.blk.cell 3));obtain⟨node,hnode⟩:∃x,x=S.node:=⟨_,rfl⟩
 obtain⟨nx0,hnx⟩:∃x,x=S.next:=⟨_,rfl⟩
 have HQ0:=qq (fun W (hW:RStoreAt R S W)=>(show W.cell? ⟨R.sb,0,none⟩=some (.int .i64 node) by rw[hnode];exact hW.blk.cell 0));have HQ1:=qq (fun W (hW:RStoreAt R S W)=>(show W.cell? ⟨R.sb,1,none⟩=some (.int .i64 nx0) by rw[hnx];exact hW.blk.cell 1));have HV:=qq hav;obtain⟨i0,ei,ez,es,eb⟩:=info_parts infoRAct;obtain⟨hq0,hq1⟩:=hq;obtain⟨hpa0,hpa8⟩:=hpa
 obtain⟨k,an,aq,rg,nd,pt,pr,oc,dp,pa,st,hw,de,ex⟩:=f;dsimp only at*;subst hk;dsimp only[factV,factC] at*;rw[←hnode] at h1;rw[←hnx] at h2;rw[←hm] at h5;subst h1;have d1:(an !=an)=false:=by simp
 have d2:decide (aq<nx0)=false:=decide_eq_false (by omega);have d3:decide ((8:Int)≤(n:Int))=false:=decide_eq_false (by omega);have d4:decide (8≤n)=false:=decide_eq_false (by omega);have d5:decide (0<pa)=true:=decide_eq_true h4;have d6:decide ((m:Int)<pa)=false:=decide_eq_false (by omega);clear hR h hok hx hn hr hv han har hav hm hn' hnode hnx;go_enter Tryz.func22,Tryz.ntmps22;go_wp2_with fail
 (with_reducible refine(HR.out _).mono ?_)
 rintro e w1 ⟨rfl,hb1⟩;have B1:Below w.heap.size w w1:=below_then (by go_grown) hb1;have HK1:=qq ((Blk.fresh w #[.int .i64 1,an,aq,rg,nd,pt,pr,oc,dp,pa,st,hw,de,.float .f64 ex] 42 _ rfl).below hb1);have hz1:=hb1.size;simp only[World.size_alloc] at hz1;have hs1:R.sb<w1.heap.size:=by omega
 have hs2:w.heap.size<w1.heap.size:=by omega
 obtain⟨q,qf⟩:=HK1.out.out;have c0:=HQ0.out _ (H.out.below B1);have c1:=HQ1.out _ (H.out.below B1);have c2:=HQ.out _ (H.out.below B1);have c3:=HQ3.out _ (H.out.below B1);go_wp2_with fail;have qd:=HK1.out.drew.cell;have hp0:0≤pa - 1:=by omega
 have hp1:pa - 1≤100:=by omega
 have hwp:IntKind.i64.wrap (pa - 1)=pa - 1:=IntWalk.i64_in _ (by omega)
 go_region_held3 (fun w'=>(∀jj,w'.cell? ⟨w.heap.size,jj,none⟩= #[.int .i64 1,.int .i64 an,.int .i64 aq,.int .i64 rg,.int .i64 nd,.int .i64 pt,.int .i64 pr,.int .i64 oc,.int .i64 dp,.int .i64 pa,.int .i64 st,.int .i64 hw,.int .i64 de,.float .f64 ex][jj]?)∧w'.cell? ⟨R.sb,0,none⟩=some (.int .i64 an)∧w'.cell? ⟨R.sb,1,none⟩=some (.int .i64 nx0)∧w'.cell? ⟨R.sb,2,none⟩=some (.slice aa n acap)∧w'.cell? ⟨R.sb,3,none⟩=some (.slice a m cap)) (first | exact⟨q,c0,c1,c2,c3⟩ | exact⟨qd,c0,c1,c2,c3⟩ | go_keep | ((repeat' apply And.intro)<;>(first | go_keep | exact q | exact qd))) (first | (go_at_call 91;(with_reducible refine(HC.out _ (by go_grown) hp0 hp1).mono ?_);rintro e w2 ⟨rfl,hb2⟩;have B2:Below w.heap.size w w2:=below_then (below_then B1 (by go_grown)) hb2;have HK2:=qq ((HK1.out.below (by go_grown)).below hb2);clear q qf c0 c1 c2 c3 qd;obtain⟨q,qf⟩:=HK2.out.out;have c0:=HQ0.out _ (H.out.below B2);have c1:=HQ1.out _ (H.out.below B2);have c2:=HQ.out _ (H.out.below B2);have c3:=HQ3.out _ (H.out.below B2);have hz2:=hb2.size;simp only[World.size_alloc,World.size_drew] at hz2))
 all_goals clear hwp
 all_goals go_wp2_with fail
 have H2:=qq (H.out.below B2);have hs3:R.sb<w2.heap.size:=by omega
 have hs4:w.heap.size<w2.heap.size:=by omega
 have hs5:R.sb<w2.heap.size+1:=by omega
 have hs6:w.heap.size<w2.heap.size+1:=by omega
 clear q qf c0 c1 c2 c3;obtain⟨q,qf⟩:=HK2.out.out;have c2:=HQ.out _ H2.out
 (try clear d1);(try clear d2);(try clear d3);(try clear d4);(try clear d5);(try clear d6)
 go_wp2_with fail
 go_region_law (refine step_app rfl (.tmp 78) (.tmp 83) 31 rfl 0 116 i0 (.agg #[.int .i64 0,.int .i64 0,.int .i64 0,.int .i64 0,.float .f64 0,.int .i64 0,.int .i64 0,.slice none 0 0]) 8 80 Tryz.underlying31 ei ez es eb rfl (by decide) (.slice aa n acap) n (actsL S.acts R.rv) (by rfl) (by rw[←HV.out];exact HO.out _ (H2.out.below (by go_grown))) ⟨w2.heap.size+1,0,none⟩ 1 1 (actL ⟨an,aq,oc,dp,ex,pa,0,[]⟩ (.slice none 0 0)) (by rfl) rfl (lit_cells (by first | exact(Blk.fresh _ _ _ _ (by simp)).drew | exact(Blk.fresh _ _ _ _ (by simp)).drew.drew | exact Blk.fresh _ _ _ _ (by simp))) (actL_one (x:=(⟨an,aq,oc,dp,ex,pa,0,[]⟩,.slice none 0 0)) ⟨none,0,0,rfl⟩) (by unfold maxLen;omega) (by omega) (Nat.zero_le _) ?_;intro v2 w3 hown2 hgrow2 hat2;rw[←HV.out] at hgrow2 hat2;have s2:w3.cell? ⟨R.sb,2,none⟩=some (.slice aa n acap):=hgrow2.cell (HQ.out _ (H2.out.below (by go_grown))) (fun e=>H2.out.ne_top.1 e.symm);have s1:w3.cell? ⟨R.sb,1,none⟩=some (.int .i64 nx0):=hgrow2.cell (HQ1.out _ (H2.out.below (by go_grown))) (fun e=>H2.out.ne_top.1 e.symm);have HS2:=qq ((H2.out.below (by go_grown)).blk.same hgrow2.size (hgrow2.block _ (H2.out.below (by go_grown)).blk.lt (fun e=>H2.out.ne_top.1 e.symm)));have f2:=HS2.out.free;have HK3:=qq ((HK2.out.below (by go_grown)).same hgrow2.size (hgrow2.block _ (HK2.out.below (by go_grown)).lt (fun e=>by have:=(H.out.acts.lt _ e.symm).2;omega)));have HZ:=qq (HE.out _ w3 v2 ⟨an,aq,oc,dp,ex,pa,0,[]⟩ (aq+1) (below_then B2 (by go_grown)) rfl hgrow2 hown2 hat2);obtain⟨a2,cap2,rfl⟩:=row_slice hown2;clear hown2 hgrow2 hat2 q qf c2;obtain⟨q2,qf2⟩:=HK3.out.out)
 all_goals go_wp2_with fail
 all_goals go_ret
 all_goals exact⟨rfl,HZ.out⟩
end Go.Proofs.YtlkajejbfojkeaaGreatDoor
