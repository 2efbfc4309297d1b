/- RstH -/
import Derived.Test.YtlkajejbfojkeaaGreatDoorGRstD
import Derived.Deep.RegionWith
set_option linter.unusedSimpArgs false
set_option linter.unusedVariables false
set_option maxRecDepth 100000
set_option maxHeartbeats 16000000
namespace Go.Proofs.YtlkajejbfojkeaaGreatDoor
open Go.RowKit
theorem ropen_no4 (R : RLoc) (S : Sto) (f : SFact) (w : World) (hx : F64 f.ex) (h : RStoreAt R S w) (hok : fok f = true) (hk : f.k = 1) (hl : S.acts.length ≤ 8) (h1 : f.an = S.node) (h2 : S.next ≤ f.aq) (h3 : S.acts.length < 8) (h4 : 0 < f.pa) (h4b : f.pa ≤ 8) (h5 : (S.parts.length : Int) < f.pa) :
    Calls Tryz.prog 22 #[.pointer (some ⟨R.sb,0,none⟩),factV f] w (RApplyEnds R S 9 w):=by
 have hR:=fun W=>rright14_of f hx W
 rw[hok] at hR;obtain⟨a,cap,hv,hn,hr⟩:=part_row h.parts;obtain⟨aa,acap,hav,han,har⟩:=act_row h.len h.acts;have HR:=qq hR;have H:=qq h;have hsb:=h.blk.lt;have Q0:=qq (h.blk.cell 0);have Q1:=qq (h.blk.cell 1);have Q2:=qq (show w.cell? ⟨R.sb,2,none⟩=some (.slice aa S.acts.length acap) by rw[←hav];exact h.blk.cell 2)
 have Q3:=qq (show w.cell? ⟨R.sb,3,none⟩=some (.slice a S.parts.length cap) by rw[←hv];exact h.blk.cell 3);obtain⟨k,an,aq,rg,nd,pt,pr,oc,dp,pa,st,hw,de,ex⟩:=f;dsimp only at*;subst hk;dsimp only[factV,factC] at*;obtain⟨m,hm⟩:∃m,m=S.parts.length:=⟨_,rfl⟩
 obtain⟨n,hn'⟩:∃n,n=S.acts.length:=⟨_,rfl⟩
 obtain⟨node,hnode⟩:∃x,x=S.node:=⟨_,rfl⟩
 obtain⟨next,hnext⟩:∃x,x=S.next:=⟨_,rfl⟩
 simp only[←hm,←hn',←hnode,←hnext] at*;subst h1;have d1:(an !=an)=false:=by simp
 have d2:decide (aq<next)=false:=decide_eq_false (by omega);have d3:decide ((8:Int)≤(n:Int))=false:=decide_eq_false (by omega);have d4:decide (8≤n)=false:=decide_eq_false (by omega);have d5:decide (0<pa)=true:=decide_eq_true h4;have d6:decide ((m:Int)<pa)=true:=decide_eq_true h5;clear hR h hok hx hn hr hv han har hav hm hn' hnode hnext;go_enter Tryz.func22,Tryz.ntmps22;go_wp2_with fail
 (with_reducible refine(HR.out _).mono ?_)
 rintro e w1 ⟨rfl,hb1⟩;have B1:Below w.heap.size w w1:=below_then (by go_grown) hb1;have HK1:=qq ((Blk.fresh w #[.int .i64 1,an,aq,rg,nd,pt,pr,oc,dp,pa,st,hw,de,.float .f64 ex] 42 _ rfl).below hb1);have hz1:=hb1.size;simp only[World.size_alloc] at hz1;have hs1:R.sb<w1.heap.size:=by omega
 have hs2:w.heap.size<w1.heap.size:=by omega
 obtain⟨q,qf⟩:=HK1.out.out;have c0:=(B1.cell (p:=⟨R.sb,0,none⟩) hsb).trans Q0.out;have c1:=(B1.cell (p:=⟨R.sb,1,none⟩) hsb).trans Q1.out;have c2:=(B1.cell (p:=⟨R.sb,2,none⟩) hsb).trans Q2.out;have c3:=(B1.cell (p:=⟨R.sb,3,none⟩) hsb).trans Q3.out;go_wp2_with fail;go_region
 all_goals go_wp2_with fail
 all_goals go_ret
 all_goals exact⟨rfl,RGoes.same H.out (below_then B1 (by go_grown))⟩
theorem ropen_no5 (R : RLoc) (S : Sto) (f : SFact) (w : World) (hx : F64 f.ex) (h : RStoreAt R S w) (hok : fok f = true) (hk : f.k = 1) (hl : S.acts.length ≤ 8) (h1 : f.an = S.node) (h2 : S.next ≤ f.aq) (h3 : S.acts.length < 8) (h4 : 0 < f.pa) (h4b : f.pa ≤ 8) (h5 : f.pa ≤ (S.parts.length : Int)) (j : Nat) (h6 : schild S f.pa = some j) :
    Calls Tryz.prog 22 #[.pointer (some ⟨R.sb,0,none⟩),factV f] w (RApplyEnds R S 9 w):=by
 have hR:=fun W=>rright14_of f hx W
 rw[hok] at hR;obtain⟨a,cap,hv,hn,hr⟩:=part_row h.parts;obtain⟨aa,acap,hav,han,har⟩:=act_row h.len h.acts;have HR:=qq hR;have H:=qq h;have hsb:=h.blk.lt;have Q0:=qq (h.blk.cell 0);have Q1:=qq (h.blk.cell 1);have Q2:=qq (show w.cell? ⟨R.sb,2,none⟩=some (.slice aa S.acts.length acap) by rw[←hav];exact h.blk.cell 2)
 have Q3:=qq (show w.cell? ⟨R.sb,3,none⟩=some (.slice a S.parts.length cap) by rw[←hv];exact h.blk.cell 3);have HC:=qq (fun W (hB:Below w.heap.size w W) (hp0:0≤f.pa - 1) (hp1:f.pa - 1≤100)=>rchild_of R S (f.pa - 1) W (h.below hB) hl hp0 hp1);rw[show f.pa - 1+1=f.pa by omega] at HC;obtain⟨k,an,aq,rg,nd,pt,pr,oc,dp,pa,st,hw,de,ex⟩:=f;dsimp only at*;subst hk;dsimp only[factV,factC] at*
 obtain⟨m,hm⟩:∃m,m=S.parts.length:=⟨_,rfl⟩
 obtain⟨n,hn'⟩:∃n,n=S.acts.length:=⟨_,rfl⟩
 obtain⟨node,hnode⟩:∃x,x=S.node:=⟨_,rfl⟩
 obtain⟨next,hnext⟩:∃x,x=S.next:=⟨_,rfl⟩
 simp only[←hm,←hn',←hnode,←hnext] at*;subst h1;have d1:(an !=an)=false:=by simp
 have d2:decide (aq<next)=false:=decide_eq_false (by omega);have d3:decide ((8:Int)≤(n:Int))=false:=decide_eq_false (by omega);have d4:decide (8≤n)=false:=decide_eq_false (by omega);have d5:decide (0<pa)=true:=decide_eq_true h4;have d6:decide ((m:Int)<pa)=false:=decide_eq_false (by omega);rw[h6] at HC;dsimp only[oix] at HC;have d7:decide ((0:Int)≤(j:Int))=true:=decide_eq_true (by omega)
 have d8:decide (0≤j)=true:=decide_eq_true (by omega);clear hR h hok hx hn hr hv han har hav hm hn' hnode hnext;go_enter Tryz.func22,Tryz.ntmps22;go_wp2_with fail
 (with_reducible refine(HR.out _).mono ?_)
 rintro e w1 ⟨rfl,hb1⟩;have B1:Below w.heap.size w w1:=below_then (by go_grown) hb1;have HK1:=qq ((Blk.fresh w #[.int .i64 1,an,aq,rg,nd,pt,pr,oc,dp,pa,st,hw,de,.float .f64 ex] 42 _ rfl).below hb1);have hz1:=hb1.size;simp only[World.size_alloc] at hz1;have hs1:R.sb<w1.heap.size:=by omega
 have hs2:w.heap.size<w1.heap.size:=by omega
 obtain⟨q,qf⟩:=HK1.out.out;have c0:=(B1.cell (p:=⟨R.sb,0,none⟩) hsb).trans Q0.out;have c1:=(B1.cell (p:=⟨R.sb,1,none⟩) hsb).trans Q1.out;have c2:=(B1.cell (p:=⟨R.sb,2,none⟩) hsb).trans Q2.out;have c3:=(B1.cell (p:=⟨R.sb,3,none⟩) hsb).trans Q3.out;go_wp2_with fail;have qd:=HK1.out.drew.cell;have hp0:0≤pa - 1:=by omega
 have hp1:pa - 1≤100:=by omega
 have hwp:IntKind.i64.wrap (pa - 1)=pa - 1:=IntWalk.i64_in _ (by omega)
 go_region_held3 (fun w'=>(∀jj,w'.cell? ⟨w.heap.size,jj,none⟩= #[.int .i64 1,.int .i64 an,.int .i64 aq,.int .i64 rg,.int .i64 nd,.int .i64 pt,.int .i64 pr,.int .i64 oc,.int .i64 dp,.int .i64 pa,.int .i64 st,.int .i64 hw,.int .i64 de,.float .f64 ex][jj]?)∧w'.cell? ⟨R.sb,0,none⟩=some (.int .i64 an)∧w'.cell? ⟨R.sb,1,none⟩=some (.int .i64 next)∧w'.cell? ⟨R.sb,2,none⟩=some (.slice aa n acap)∧w'.cell? ⟨R.sb,3,none⟩=some (.slice a m cap)) (first | exact⟨q,c0,c1,c2,c3⟩ | exact⟨qd,c0,c1,c2,c3⟩ | go_keep | ((repeat' apply And.intro)<;>(first | go_keep | exact q | exact qd))) (first | (go_at_call 91;(with_reducible refine(HC.out _ (by go_grown) hp0 hp1).mono ?_);rintro e w2 ⟨rfl,hb2⟩;have B2:Below w.heap.size w w2:=below_then (below_then B1 (by go_grown)) hb2;have HK2:=qq ((HK1.out.below (by go_grown)).below hb2);clear q qf c0 c1 c2 c3 qd;obtain⟨q,qf⟩:=HK2.out.out;have c0:=(B2.cell (p:=⟨R.sb,0,none⟩) hsb).trans Q0.out;have c1:=(B2.cell (p:=⟨R.sb,1,none⟩) hsb).trans Q1.out;have c2:=(B2.cell (p:=⟨R.sb,2,none⟩) hsb).trans Q2.out;have c3:=(B2.cell (p:=⟨R.sb,3,none⟩) hsb).trans Q3.out;have hz2:=hb2.size;simp only[World.size_alloc,World.size_drew] at hz2))
 all_goals clear hwp
 all_goals go_wp2_with fail
 all_goals go_ret
 all_goals exact⟨rfl,RGoes.same H.out (below_then B2 (by go_grown))⟩
end Go.Proofs.YtlkajejbfojkeaaGreatDoor
