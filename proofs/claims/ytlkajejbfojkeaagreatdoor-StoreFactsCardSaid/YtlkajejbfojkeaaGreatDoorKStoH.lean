/- StoH -/
import Derived.Test.YtlkajejbfojkeaaGreatDoorKStoUToFacI
set_option linter.unusedSimpArgs false
set_option linter.unusedVariables false
set_option maxRecDepth 100000
set_option maxHeartbeats 16000000
namespace Go.Proofs.YtlkajejbfojkeaaGreatDoor
open Go.RowKit
theorem opened_no1 (L : SLoc) (S : Sto) (f : SFact) (w : World) (h : StoreAt L S w) (hG : StoGood S) (hpa : 0 ≤ f.pa ∧ f.pa ≤ 8) (h1 : f.an ≠ S.node) :
    Calls Tryz.prog 84 #[.pointer (some ⟨L.sb,0,none⟩),factV f] w fun e w'=>e=.returned (.bool false)∧SGoes L S w w':=by
 obtain⟨a,cap,hv,hn,hr⟩:=ptr_row h.acts;have HH:=qq (fun W (hB:Below w.heap.size w W)=>has_of L S (f.pa - 1) W (h.below hB));have HC:=qq (fun W (hB:Below w.heap.size w W)=>child_of L S f.pa W (h.below hB) hG);have H:=qq h;have hsb:=h.blk.lt;have c0:w.cell? ⟨L.sb,0,none⟩=some (.int .i64 S.node):=h.blk.cell 0;have c1:w.cell? ⟨L.sb,1,none⟩=some (.int .i64 S.next):=h.blk.cell 1
 have c2:w.cell? ⟨L.sb,2,none⟩=some (.slice a S.acts.length cap):=by rw[←hv];exact h.blk.cell 2
 obtain⟨n,hnn⟩:∃n,n=S.acts.length:=⟨_,rfl⟩
 obtain⟨nd0,hnd⟩:∃x,x=S.node:=⟨_,rfl⟩
 obtain⟨nx0,hnx⟩:∃x,x=S.next:=⟨_,rfl⟩
 obtain⟨k,an,aq,rg,nd,pt,pr,oc,dp,pa,st,hw,de,ex⟩:=f;dsimp only[factV,factC] at*;rw[←hnd] at c0;rw[←hnx] at c1;rw[←hnn] at c2;obtain⟨hpa0,hpa8⟩:=hpa;rw[←hnd] at h1;have t1:(an !=nd0)=true:=by simpa using h1
 clear hn hr hv h hG hnn hnd hnx h1;go_enter Tryz.func84,Tryz.ntmps84;go_wp2_with fail;go_region
 all_goals go_wp2_with fail
 all_goals go_ret
 all_goals exact⟨rfl,SGoes.same H.out (by go_grown)⟩
theorem opened_no2 (L : SLoc) (S : Sto) (f : SFact) (w : World) (h : StoreAt L S w) (hG : StoGood S) (hpa : 0 ≤ f.pa ∧ f.pa ≤ 8) (h1 : f.an = S.node) (h2 : f.aq < S.next) :
    Calls Tryz.prog 84 #[.pointer (some ⟨L.sb,0,none⟩),factV f] w fun e w'=>e=.returned (.bool false)∧SGoes L S w w':=by
 obtain⟨a,cap,hv,hn,hr⟩:=ptr_row h.acts;have HH:=qq (fun W (hB:Below w.heap.size w W)=>has_of L S (f.pa - 1) W (h.below hB));have HC:=qq (fun W (hB:Below w.heap.size w W)=>child_of L S f.pa W (h.below hB) hG);have H:=qq h;have hsb:=h.blk.lt;have c0:w.cell? ⟨L.sb,0,none⟩=some (.int .i64 S.node):=h.blk.cell 0;have c1:w.cell? ⟨L.sb,1,none⟩=some (.int .i64 S.next):=h.blk.cell 1
 have c2:w.cell? ⟨L.sb,2,none⟩=some (.slice a S.acts.length cap):=by rw[←hv];exact h.blk.cell 2
 obtain⟨n,hnn⟩:∃n,n=S.acts.length:=⟨_,rfl⟩
 obtain⟨nd0,hnd⟩:∃x,x=S.node:=⟨_,rfl⟩
 obtain⟨nx0,hnx⟩:∃x,x=S.next:=⟨_,rfl⟩
 obtain⟨k,an,aq,rg,nd,pt,pr,oc,dp,pa,st,hw,de,ex⟩:=f;dsimp only[factV,factC] at*;rw[←hnd] at c0;rw[←hnx] at c1;rw[←hnn] at c2;obtain⟨hpa0,hpa8⟩:=hpa;rw[←hnd] at h1;rw[←hnx] at h2;subst h1;have t1:(an !=an)=false:=by simp
 clear hn hr hv h hG hnn hnd hnx;go_enter Tryz.func84,Tryz.ntmps84;go_wp2_with fail;go_region
 all_goals go_wp2_with fail
 all_goals go_ret
 all_goals exact⟨rfl,SGoes.same H.out (by go_grown)⟩
theorem opened_no3 (L : SLoc) (S : Sto) (f : SFact) (w : World) (h : StoreAt L S w) (hG : StoGood S) (hpa : 0 ≤ f.pa ∧ f.pa ≤ 8) (h1 : f.an = S.node) (h2 : S.next ≤ f.aq) (h3 : 8 ≤ S.acts.length) :
    Calls Tryz.prog 84 #[.pointer (some ⟨L.sb,0,none⟩),factV f] w fun e w'=>e=.returned (.bool false)∧SGoes L S w w':=by
 obtain⟨a,cap,hv,hn,hr⟩:=ptr_row h.acts;have HH:=qq (fun W (hB:Below w.heap.size w W)=>has_of L S (f.pa - 1) W (h.below hB));have HC:=qq (fun W (hB:Below w.heap.size w W)=>child_of L S f.pa W (h.below hB) hG);have H:=qq h;have hsb:=h.blk.lt;have c0:w.cell? ⟨L.sb,0,none⟩=some (.int .i64 S.node):=h.blk.cell 0;have c1:w.cell? ⟨L.sb,1,none⟩=some (.int .i64 S.next):=h.blk.cell 1
 have c2:w.cell? ⟨L.sb,2,none⟩=some (.slice a S.acts.length cap):=by rw[←hv];exact h.blk.cell 2
 obtain⟨n,hnn⟩:∃n,n=S.acts.length:=⟨_,rfl⟩
 obtain⟨nd0,hnd⟩:∃x,x=S.node:=⟨_,rfl⟩
 obtain⟨nx0,hnx⟩:∃x,x=S.next:=⟨_,rfl⟩
 obtain⟨k,an,aq,rg,nd,pt,pr,oc,dp,pa,st,hw,de,ex⟩:=f;dsimp only[factV,factC] at*;rw[←hnd] at c0;rw[←hnx] at c1;rw[←hnn] at c2;obtain⟨hpa0,hpa8⟩:=hpa;rw[←hnd] at h1;rw[←hnx] at h2;rw[←hnn] at h3;subst h1;have t1:(an !=an)=false:=by simp
 have t2:¬aq<nx0:=by omega
 have t3:(8:Int)≤(n:Int):=by omega
 have d1:decide (aq<nx0)=false:=decide_eq_false t2;clear hn hr hv h hG hnn hnd hnx h2 h3;go_enter Tryz.func84,Tryz.ntmps84;go_wp2_with fail;go_region
 all_goals go_wp2_with fail
 all_goals go_ret
 all_goals exact⟨rfl,SGoes.same H.out (by go_grown)⟩
theorem opened_no4 (L : SLoc) (S : Sto) (f : SFact) (w : World) (h : StoreAt L S w) (hG : StoGood S) (hpa : 0 ≤ f.pa ∧ f.pa ≤ 8) (h1 : f.an = S.node) (h2 : S.next ≤ f.aq) (h3 : S.acts.length < 8) (h4 : 0 < f.pa) (h5 : (S.parts.length : Int) < f.pa) :
    Calls Tryz.prog 84 #[.pointer (some ⟨L.sb,0,none⟩),factV f] w fun e w'=>e=.returned (.bool false)∧SGoes L S w w':=by
 obtain⟨a,cap,hv,hn,hr⟩:=ptr_row h.acts;have HH:=qq (fun W (hB:Below w.heap.size w W)=>has_of L S (f.pa - 1) W (h.below hB));have HC:=qq (fun W (hB:Below w.heap.size w W)=>child_of L S f.pa W (h.below hB) hG);have H:=qq h;have hsb:=h.blk.lt;have c0:w.cell? ⟨L.sb,0,none⟩=some (.int .i64 S.node):=h.blk.cell 0;have c1:w.cell? ⟨L.sb,1,none⟩=some (.int .i64 S.next):=h.blk.cell 1
 have c2:w.cell? ⟨L.sb,2,none⟩=some (.slice a S.acts.length cap):=by rw[←hv];exact h.blk.cell 2
 obtain⟨n,hnn⟩:∃n,n=S.acts.length:=⟨_,rfl⟩
 obtain⟨nd0,hnd⟩:∃x,x=S.node:=⟨_,rfl⟩
 obtain⟨nx0,hnx⟩:∃x,x=S.next:=⟨_,rfl⟩
 obtain⟨k,an,aq,rg,nd,pt,pr,oc,dp,pa,st,hw,de,ex⟩:=f;dsimp only[factV,factC] at*;rw[←hnd] at c0;rw[←hnx] at c1;rw[←hnn] at c2;obtain⟨hpa0,hpa8⟩:=hpa;rw[←hnd] at h1;rw[←hnx] at h2;rw[←hnn] at h3;subst h1;have t1:(an !=an)=false:=by simp
 have t2:¬aq<nx0:=by omega
 have t3:¬(8:Int)≤(n:Int):=by omega
 have d1:decide (aq<nx0)=false:=decide_eq_false t2;have d2:decide ((8:Int)≤(n:Int))=false:=decide_eq_false t3;have hh:decide (0≤pa - 1∧pa - 1<(S.parts.length:Int))=false:=decide_eq_false (fun e=>by omega);rw[hh] at HH;clear hn hr hv h hG hnn hnd hnx h2 h3 hh;go_enter Tryz.func84,Tryz.ntmps84;go_wp2_with fail;go_region
 all_goals go_wp2_with fail
 (with_reducible refine(HH.out _ (by go_grown)).mono ?_)
 rintro e w0 ⟨rfl,rfl⟩;have B1:=(by go_grown:Below w.heap.size w (World.drew (w.alloc (.cells #[k,an,aq,rg,nd,pt,pr,oc,dp,pa,st,hw,de,.float .f64 ex] 39))))
 all_goals go_wp2_with fail
 all_goals go_ret
 all_goals exact⟨rfl,SGoes.same H.out B1⟩
theorem opened_no5 (L : SLoc) (S : Sto) (f : SFact) (w : World) (h : StoreAt L S w) (hG : StoGood S) (hpa : 0 ≤ f.pa ∧ f.pa ≤ 8) (i : Nat) (h1 : f.an = S.node) (h2 : S.next ≤ f.aq) (h3 : S.acts.length < 8) (h4 : 0 < f.pa) (h5 : f.pa ≤ (S.parts.length : Int)) (h6 : schild S f.pa = some i) :
    Calls Tryz.prog 84 #[.pointer (some ⟨L.sb,0,none⟩),factV f] w fun e w'=>e=.returned (.bool false)∧SGoes L S w w':=by
 obtain⟨a,cap,hv,hn,hr⟩:=ptr_row h.acts;have HH:=qq (fun W (hB:Below w.heap.size w W)=>has_of L S (f.pa - 1) W (h.below hB));have HC:=qq (fun W (hB:Below w.heap.size w W)=>child_of L S f.pa W (h.below hB) hG);have H:=qq h;have hsb:=h.blk.lt;have c0:w.cell? ⟨L.sb,0,none⟩=some (.int .i64 S.node):=h.blk.cell 0;have c1:w.cell? ⟨L.sb,1,none⟩=some (.int .i64 S.next):=h.blk.cell 1
 have c2:w.cell? ⟨L.sb,2,none⟩=some (.slice a S.acts.length cap):=by rw[←hv];exact h.blk.cell 2
 obtain⟨n,hnn⟩:∃n,n=S.acts.length:=⟨_,rfl⟩
 obtain⟨nd0,hnd⟩:∃x,x=S.node:=⟨_,rfl⟩
 obtain⟨nx0,hnx⟩:∃x,x=S.next:=⟨_,rfl⟩
 obtain⟨k,an,aq,rg,nd,pt,pr,oc,dp,pa,st,hw,de,ex⟩:=f;dsimp only[factV,factC] at*;rw[←hnd] at c0;rw[←hnx] at c1;rw[←hnn] at c2;obtain⟨hpa0,hpa8⟩:=hpa;rw[←hnd] at h1;rw[←hnx] at h2;have hil:i<L.ab.length:=by rw[h.len];unfold schild at h6;exact(List.findIdx?_eq_some_iff_getElem.1 h6).1
 rw[←hnn] at h3;subst h1;have t1:(an !=an)=false:=by simp
 have t2:¬aq<nx0:=by omega
 have t3:¬(8:Int)≤(n:Int):=by omega
 have d1:decide (aq<nx0)=false:=decide_eq_false t2;have d2:decide ((8:Int)≤(n:Int))=false:=decide_eq_false t3;have hh:decide (0≤pa - 1∧pa - 1<(S.parts.length:Int))=true:=decide_eq_true ⟨by omega,by omega⟩;rw[hh] at HH;rw[if_neg (by omega),h6] at HC;have hap:aptr L (some i)=.pointer (some ⟨(L.ab[i]).1,0,none⟩):=by simp[aptr,List.getElem?_eq_getElem hil]
 rw[hap] at HC;obtain⟨xb,hxb⟩:∃xb,xb=(L.ab[i]).1:=⟨_,rfl⟩
 rw[←hxb] at HC;clear hn hr hv h hG hnn hnd hnx h2 h3 hh h5 h6 hap hxb hil;go_enter Tryz.func84,Tryz.ntmps84;go_wp2_with fail;go_region
 all_goals go_wp2_with fail
 (with_reducible refine(HH.out _ (by go_grown)).mono ?_)
 rintro e w0 ⟨rfl,rfl⟩;go_wp2_with fail
 (with_reducible refine(HC.out _ (by go_grown)).mono ?_)
 rintro e w1 ⟨rfl,hb1⟩;have B1:Below w.heap.size w w1:=below_then (by go_grown) hb1;go_wp2_with fail
 all_goals go_ret
 all_goals exact⟨rfl,SGoes.same H.out B1⟩
end Go.Proofs.YtlkajejbfojkeaaGreatDoor
