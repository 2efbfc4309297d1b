/- RstG -/
import Derived.Test.YtlkajejbfojkeaaGreatDoorGRstD
set_option linter.unusedSimpArgs false
set_option linter.unusedVariables false
set_option maxRecDepth 100000
set_option maxHeartbeats 16000000
namespace Go.Proofs.YtlkajejbfojkeaaGreatDoor
open Go.RowKit
theorem ropen_no1 (R : RLoc) (S : Sto) (f : SFact) (w : World) (hx : F64 f.ex) (h : RStoreAt R S w) (hok : fok f = true) (hk : f.k = 1) (h1 : f.an ≠ S.node) :
    Calls Tryz.prog 22 #[.pointer (some ⟨R.sb,0,none⟩),factV f] w (RApplyEnds R S 9 w):=by
 have hR:=fun W=>rright14_of f hx W
 rw[hok] at hR;obtain⟨a,cap,hv,hn,hr⟩:=part_row h.parts;obtain⟨aa,acap,hav,han,har⟩:=act_row h.len h.acts;have HR:=qq hR;have H:=qq h;have hsb:=h.blk.lt;have Q0:=qq (h.blk.cell 0);have Q1:=qq (h.blk.cell 1);have Q2:=qq (show w.cell? ⟨R.sb,2,none⟩=some (.slice aa S.acts.length acap) by rw[←hav];exact h.blk.cell 2)
 have Q3:=qq (show w.cell? ⟨R.sb,3,none⟩=some (.slice a S.parts.length cap) by rw[←hv];exact h.blk.cell 3);obtain⟨k,an,aq,rg,nd,pt,pr,oc,dp,pa,st,hw,de,ex⟩:=f;dsimp only at*;subst hk;dsimp only[factV,factC] at*;obtain⟨m,hm⟩:∃m,m=S.parts.length:=⟨_,rfl⟩
 obtain⟨n,hn'⟩:∃n,n=S.acts.length:=⟨_,rfl⟩
 obtain⟨node,hnode⟩:∃x,x=S.node:=⟨_,rfl⟩
 obtain⟨next,hnext⟩:∃x,x=S.next:=⟨_,rfl⟩
 simp only[←hm,←hn',←hnode,←hnext] at*;have d1:(an !=node)=true:=by simpa using h1
 clear hR h hok hx hn hr hv han har hav hm hn' hnode hnext;go_enter Tryz.func22,Tryz.ntmps22;go_wp2_with fail
 (with_reducible refine(HR.out _).mono ?_)
 rintro e w1 ⟨rfl,hb1⟩;have B1:Below w.heap.size w w1:=below_then (by go_grown) hb1;have HK1:=qq ((Blk.fresh w #[.int .i64 1,an,aq,rg,nd,pt,pr,oc,dp,pa,st,hw,de,.float .f64 ex] 42 _ rfl).below hb1);have hz1:=hb1.size;simp only[World.size_alloc] at hz1;have hs1:R.sb<w1.heap.size:=by omega
 have hs2:w.heap.size<w1.heap.size:=by omega
 obtain⟨q,qf⟩:=HK1.out.out;have c0:=(B1.cell (p:=⟨R.sb,0,none⟩) hsb).trans Q0.out;have c1:=(B1.cell (p:=⟨R.sb,1,none⟩) hsb).trans Q1.out;have c2:=(B1.cell (p:=⟨R.sb,2,none⟩) hsb).trans Q2.out;have c3:=(B1.cell (p:=⟨R.sb,3,none⟩) hsb).trans Q3.out;go_wp2_with fail;go_region
 all_goals go_wp2_with fail
 all_goals go_ret
 all_goals exact⟨rfl,RGoes.same H.out (below_then B1 (by go_grown))⟩
theorem ropen_no2 (R : RLoc) (S : Sto) (f : SFact) (w : World) (hx : F64 f.ex) (h : RStoreAt R S w) (hok : fok f = true) (hk : f.k = 1) (h1 : f.an = S.node) (h2 : f.aq < S.next) :
    Calls Tryz.prog 22 #[.pointer (some ⟨R.sb,0,none⟩),factV f] w (RApplyEnds R S 9 w):=by
 have hR:=fun W=>rright14_of f hx W
 rw[hok] at hR;obtain⟨a,cap,hv,hn,hr⟩:=part_row h.parts;obtain⟨aa,acap,hav,han,har⟩:=act_row h.len h.acts;have HR:=qq hR;have H:=qq h;have hsb:=h.blk.lt;have Q0:=qq (h.blk.cell 0);have Q1:=qq (h.blk.cell 1);have Q2:=qq (show w.cell? ⟨R.sb,2,none⟩=some (.slice aa S.acts.length acap) by rw[←hav];exact h.blk.cell 2)
 have Q3:=qq (show w.cell? ⟨R.sb,3,none⟩=some (.slice a S.parts.length cap) by rw[←hv];exact h.blk.cell 3);obtain⟨k,an,aq,rg,nd,pt,pr,oc,dp,pa,st,hw,de,ex⟩:=f;dsimp only at*;subst hk;dsimp only[factV,factC] at*;obtain⟨m,hm⟩:∃m,m=S.parts.length:=⟨_,rfl⟩
 obtain⟨n,hn'⟩:∃n,n=S.acts.length:=⟨_,rfl⟩
 obtain⟨node,hnode⟩:∃x,x=S.node:=⟨_,rfl⟩
 obtain⟨next,hnext⟩:∃x,x=S.next:=⟨_,rfl⟩
 simp only[←hm,←hn',←hnode,←hnext] at*;subst h1;have d1:(an !=an)=false:=by simp
 have d2:decide (aq<next)=true:=decide_eq_true h2;clear hR h hok hx hn hr hv han har hav hm hn' hnode hnext;go_enter Tryz.func22,Tryz.ntmps22;go_wp2_with fail
 (with_reducible refine(HR.out _).mono ?_)
 rintro e w1 ⟨rfl,hb1⟩;have B1:Below w.heap.size w w1:=below_then (by go_grown) hb1;have HK1:=qq ((Blk.fresh w #[.int .i64 1,an,aq,rg,nd,pt,pr,oc,dp,pa,st,hw,de,.float .f64 ex] 42 _ rfl).below hb1);have hz1:=hb1.size;simp only[World.size_alloc] at hz1;have hs1:R.sb<w1.heap.size:=by omega
 have hs2:w.heap.size<w1.heap.size:=by omega
 obtain⟨q,qf⟩:=HK1.out.out;have c0:=(B1.cell (p:=⟨R.sb,0,none⟩) hsb).trans Q0.out;have c1:=(B1.cell (p:=⟨R.sb,1,none⟩) hsb).trans Q1.out;have c2:=(B1.cell (p:=⟨R.sb,2,none⟩) hsb).trans Q2.out;have c3:=(B1.cell (p:=⟨R.sb,3,none⟩) hsb).trans Q3.out;go_wp2_with fail;go_region
 all_goals go_wp2_with fail
 all_goals go_ret
 all_goals exact⟨rfl,RGoes.same H.out (below_then B1 (by go_grown))⟩
theorem ropen_no3 (R : RLoc) (S : Sto) (f : SFact) (w : World) (hx : F64 f.ex) (h : RStoreAt R S w) (hok : fok f = true) (hk : f.k = 1) (h1 : f.an = S.node) (h2 : S.next ≤ f.aq) (h3 : 8 ≤ S.acts.length) :
    Calls Tryz.prog 22 #[.pointer (some ⟨R.sb,0,none⟩),factV f] w (RApplyEnds R S 9 w):=by
 have hR:=fun W=>rright14_of f hx W
 rw[hok] at hR;obtain⟨a,cap,hv,hn,hr⟩:=part_row h.parts;obtain⟨aa,acap,hav,han,har⟩:=act_row h.len h.acts;have HR:=qq hR;have H:=qq h;have hsb:=h.blk.lt;have Q0:=qq (h.blk.cell 0);have Q1:=qq (h.blk.cell 1);have Q2:=qq (show w.cell? ⟨R.sb,2,none⟩=some (.slice aa S.acts.length acap) by rw[←hav];exact h.blk.cell 2)
 have Q3:=qq (show w.cell? ⟨R.sb,3,none⟩=some (.slice a S.parts.length cap) by rw[←hv];exact h.blk.cell 3);obtain⟨k,an,aq,rg,nd,pt,pr,oc,dp,pa,st,hw,de,ex⟩:=f;dsimp only at*;subst hk;dsimp only[factV,factC] at*;obtain⟨m,hm⟩:∃m,m=S.parts.length:=⟨_,rfl⟩
 obtain⟨n,hn'⟩:∃n,n=S.acts.length:=⟨_,rfl⟩
 obtain⟨node,hnode⟩:∃x,x=S.node:=⟨_,rfl⟩
 obtain⟨next,hnext⟩:∃x,x=S.next:=⟨_,rfl⟩
 simp only[←hm,←hn',←hnode,←hnext] at*;subst h1;have d1:(an !=an)=false:=by simp
 have d2:decide (aq<next)=false:=decide_eq_false (by omega);have d3:decide ((8:Int)≤(n:Int))=true:=decide_eq_true (by omega);have d4:decide (8≤n)=true:=decide_eq_true (by omega);clear hR h hok hx hn hr hv han har hav hm hn' hnode hnext;go_enter Tryz.func22,Tryz.ntmps22;go_wp2_with fail
 (with_reducible refine(HR.out _).mono ?_)
 rintro e w1 ⟨rfl,hb1⟩;have B1:Below w.heap.size w w1:=below_then (by go_grown) hb1;have HK1:=qq ((Blk.fresh w #[.int .i64 1,an,aq,rg,nd,pt,pr,oc,dp,pa,st,hw,de,.float .f64 ex] 42 _ rfl).below hb1);have hz1:=hb1.size;simp only[World.size_alloc] at hz1;have hs1:R.sb<w1.heap.size:=by omega
 have hs2:w.heap.size<w1.heap.size:=by omega
 obtain⟨q,qf⟩:=HK1.out.out;have c0:=(B1.cell (p:=⟨R.sb,0,none⟩) hsb).trans Q0.out;have c1:=(B1.cell (p:=⟨R.sb,1,none⟩) hsb).trans Q1.out;have c2:=(B1.cell (p:=⟨R.sb,2,none⟩) hsb).trans Q2.out;have c3:=(B1.cell (p:=⟨R.sb,3,none⟩) hsb).trans Q3.out;go_wp2_with fail;go_region
 all_goals go_wp2_with fail
 all_goals go_ret
 all_goals exact⟨rfl,RGoes.same H.out (below_then B1 (by go_grown))⟩
end Go.Proofs.YtlkajejbfojkeaaGreatDoor
