/- PcO, NmO -/
import Derived.Deep.Slices
import Derived.ChangeArms
import Derived.Laws.Cover2
import Derived.Deep.Fields
import Derived.Test.YtbepkpjcjpmpmaaGreatDoorCMtD
set_option linter.unusedSimpArgs false
set_option linter.unusedVariables false
set_option maxRecDepth 100000
set_option maxHeartbeats 16000000
namespace Go.Proofs.YtbepkpjcjpmpmaaGreatDoor
open Go.RowKit Go.Deep Go.ChangeShapes Go.WideShapes Go.ChangeAt Go.WideMaps Go.WideElems
theorem pc_list_of {α:Type} {C:Nat→α→Prop}:∀n,(∀i,i<n→∃o,C i o)→∃l:List α,l.length=n∧∀i (h:i<l.length),C i l[i]
 | 0,_=>⟨[],rfl,fun i h=>absurd h (by simp)⟩
 | n+1,h=>by
  obtain⟨l,hl,hc⟩:=pc_list_of n (fun i hi=>h i (by omega));obtain⟨o,ho⟩:=h n (by omega);refine⟨l ++ [o],by simp[hl],fun i hi=> ?_⟩;by_cases hlt:i<l.length
  · rw[List.getElem_append_left hlt];exact hc i hlt
  · have:i=n:=by simp at hi;omega
    subst this;rw[List.getElem_append_right (by omega)];simpa[hl] using ho
theorem open_pcs {H:Type} {enc:TypeId×Value→H} {W:World} {a0:Option Addr} {len cap:Nat} {d:DataW H} {p:List MemPlace} {sp:Nat→Bool} (h:DataW.Trod enc Tryz.prog W 0 sp true 22 (.slice a0 len cap) d p):∃row,PcsV W (.slice a0 len cap) row:=by
 obtain⟨fuel,hf⟩:=h;rcases open_slice Tryz.underlying22 hf with⟨hcs,hx⟩ | ⟨a,len',cap',m,n,D,Pl,hcs,hb,hl,hm,hmm,hx,hall⟩
 · simp[Value.cells] at hcs;obtain⟨rfl,rfl,rfl⟩:=hcs;exact⟨[],none,0,rfl,fun i p h=>by simp at h⟩
 · simp[Value.cells] at hcs;obtain⟨rfl,rfl,rfl⟩:=hcs;have hlm:len≤m:=by rw[hmm];split<;>omega
   have each:∀i,i<len→∃o:Pc,W.cell? (a.add (i*4))=some (.int .i64 o.par)∧W.cell? (a.add (i*4+1))=some (.int .i64 o.op)∧W.cell? (a.add (i*4+2))=some (.string ⟨o.nm.toArray⟩)∧W.cell? (a.add (i*4+3))=some (.bool o.opt):=by
    intro i hi;obtain⟨cs',h1,h2⟩:=hall i (by omega);rw[show Tryz.prog.cellsOf 66=4 by kernel_rfl] at h1;obtain⟨_,hlen,hcell⟩:=World.cells?_some h1;obtain⟨xs,k,hk,hxy,_,hxl,hfs⟩:=DataW.trod_struct Tryz.underlying66 h2
    match xs,hxl,cs',hlen with
    | [y0,y1,y2,y3],_,[v0,v1,v2,v3],_=>
     have g0:=hfs 0 _ rfl;have g1:=hfs 1 _ rfl;have g2:=hfs 2 _ rfl;have g3:=hfs 3 _ rfl;simp[show Tryz.prog.cellsOf 3=1 by kernel_rfl,show Tryz.prog.cellsOf 9=1 by kernel_rfl,show Tryz.prog.cellsOf 4=1 by kernel_rfl] at g0 g1 g2 g3;obtain⟨n0,e0,_⟩:=DataW.trod_int Tryz.underlying3 g0;obtain⟨n1,e1,_⟩:=DataW.trod_int Tryz.underlying3 g1;obtain⟨n2,e2,_⟩:=DataW.trod_string Tryz.underlying9 g2
     obtain⟨n3,e3,_⟩:=DataW.trod_bool Tryz.underlying4 g3;simp only[List.cons.injEq,and_true] at e0;simp only[List.cons.injEq,and_true] at e1;simp only[List.cons.injEq,and_true] at e2;simp only[List.cons.injEq,and_true] at e3;subst e0 e1 e2 e3;have c0:=hcell 0 (by omega);have c1:=hcell 1 (by omega);have c2:=hcell 2 (by omega);have c3:=hcell 3 (by omega);rw[add_add] at c0 c1 c2 c3
     exact⟨⟨n0,n1,n2.data.toList,n3⟩,by simpa using c0,by simpa using c1,by simpa using c2,by simpa using c3⟩
   obtain⟨es,hlen,hc⟩:=pc_list_of len each;subst hlen;rcases Nat.eq_zero_or_pos es.length with h0 | hp
   · exact⟨es,some a,cap,rfl,fun j p h=>by have:=(List.getElem?_eq_some_iff.1 h).1;omega⟩
   · have hs0:a.spot=none:=by simpa[Addr.add] using World.cell?_spot (hc 0 hp).1
     obtain⟨b,off,spot⟩:=a;have hsp:spot=none:=hs0;subst hsp;have hlt:b<W.heap.size:=by
      have:=(hc 0 hp).1;simp only[Addr.add_lit] at this;exact lt_of_cell this
     refine⟨es,some ⟨b,off,none⟩,cap,rfl,fun j p hj=>⟨b,off,rfl,hlt,?_⟩⟩;obtain⟨hj1,hj2⟩:=List.getElem?_eq_some_iff.1 hj;obtain⟨c0,c1,c2,c3⟩:=hc j hj1;rw[hj2] at c0 c1 c2 c3;simp only[Addr.add_lit,←Nat.add_assoc] at c0 c1 c2 c3;exact⟨c0,c1,c2,c3⟩
theorem open_names {H:Type} {enc:TypeId×Value→H} {W:World} {a0:Option Addr} {len cap:Nat} {d:DataW H} {p:List MemPlace} {sp:Nat→Bool} (h:DataW.Trod enc Tryz.prog W 0 sp true 49 (.slice a0 len cap) d p):∃s,NamesV W (.slice a0 len cap) s:=by
 obtain⟨fuel,hf⟩:=h;rcases open_slice Tryz.underlying49 hf with⟨hcs,hx⟩ | ⟨a,len',cap',m,n,D,Pl,hcs,hb,hl,hm,hmm,hx,hall⟩
 · simp[Value.cells] at hcs;obtain⟨rfl,rfl,rfl⟩:=hcs;exact⟨[],none,0,rfl,fun _=>⟨rfl,rfl⟩,fun i p h=>by simp at h⟩
 · simp[Value.cells] at hcs;obtain⟨rfl,rfl,rfl⟩:=hcs;have hlm:len≤m:=by rw[hmm];split<;>omega
   have each:∀i,i<len→∃o:PStr,W.cell? (a.add i)=some (.string ⟨o.toArray⟩):=by
    intro i hi;obtain⟨cs',h1,h2⟩:=hall i (by omega);rw[show Tryz.prog.cellsOf 9=1 by kernel_rfl] at h1;obtain⟨_,hlen,hcell⟩:=World.cells?_some h1
    match cs',hlen with
    | [v0],_=>
     obtain⟨n0,e0,_⟩:=DataW.trod_string Tryz.underlying9 h2;simp only[List.cons.injEq,and_true] at e0;subst e0;have c0:=hcell 0 (by omega);rw[add_add] at c0;exact⟨n0.data.toList,by simpa using c0⟩
   obtain⟨es,hlen,hc⟩:=pc_list_of len each;subst hlen;rcases Nat.eq_zero_or_pos es.length with h0 | hp
   · exact⟨es,some a,cap,rfl,fun h=>(by cases h),fun j p h=>by have:=(List.getElem?_eq_some_iff.1 h).1;omega⟩
   · have hs0:a.spot=none:=by simpa[Addr.add] using World.cell?_spot (hc 0 hp)
     obtain⟨b,off,spot⟩:=a;have hsp:spot=none:=hs0;subst hsp;have hlt:b<W.heap.size:=by
      have:=hc 0 hp;simp only[Addr.add_lit] at this;exact lt_of_cell this
     refine⟨es,some ⟨b,off,none⟩,cap,rfl,fun h=>(by cases h),fun j p hj=>⟨b,off,rfl,hlt,?_⟩⟩;obtain⟨hj1,hj2⟩:=List.getElem?_eq_some_iff.1 hj;have c0:=hc j hj1;rw[hj2] at c0;simpa only[Addr.add_lit] using c0
end Go.Proofs.YtbepkpjcjpmpmaaGreatDoor
