/- StoF -/
import Derived.Test.YtlkajejbfojkeaaGreatDoorKStoUToFacI
set_option linter.unusedSimpArgs false
set_option linter.unusedVariables false
set_option maxRecDepth 100000
set_option maxHeartbeats 16000000
namespace Go.Proofs.YtlkajejbfojkeaaGreatDoor
open Go.RowKit
attribute [local go_sem] store_float
theorem opened_end {L : SLoc} {S : Sto} {w W w2 : World} {v2 : Value} {a : SAct} {m : Nat} {nx : Int} (h : StoreAt L S w) (hb : Below w.heap.size w W) (hm : w.heap.size ≤ m) (hbl : Blk W m (actC a (.slice none 0 0))) (hr : a.regs = []) (hg : W.grownBy w2 L.av.ownBlock) (ho : w2.ownsRow 0 159 1 v2 (S.acts.length + 1) (ptrs L.ab ++ [.pointer (some ⟨m, 0, none⟩)])) (hat : v2.ownBlock = L.av.ownBlock ∨ v2.ownBlock = some W.heap.size) :
    SGoes L {S with next:=nx,acts:=S.acts ++ [a]} w ((w2.setCell ⟨L.sb,2,none⟩ v2).setCell ⟨L.sb,1,none⟩ (.int .i64 nx)):=by
 have hn:=h.ne_top;have hW:=h.below hb;have hml:=hbl.lt;have hsb:=h.blk.lt;have hav:∀k,L.av.ownBlock=some k→k<w.heap.size:=fun k hk=>(h.acts.lt k hk).2
 have hv2:v2.ownBlock≠some L.sb:=by
  rcases hat with e | e
  · rw[e];exact hn.1
  · rw[e];intro e';injection e' with e';have:=hW.blk.lt;omega
 have hblk:Blk w2 L.sb #[S.node,S.next,L.av,L.pv]:=hW.blk.same hg.size (hg.block _ hW.blk.lt (fun e=>hn.1 e.symm));have hact:Blk w2 m (actC a (.slice none 0 0)):=hbl.same hg.size (hg.block _ hml (fun e=>by have:=hav m e.symm;omega));refine⟨⟨L.sb,v2,L.pv,L.ab ++ [(m,.slice none 0 0)]⟩,rfl,h.acts_to v2 m a nx hr (by simpa using Nat.le_trans hb.size hg.size) hm (fun k hk hs hlt=> ?_) ?_ ?_ ?_ ?_,?_⟩
 · rw[Below.heap_setCell _ _ _ _ hs,Below.heap_setCell _ _ _ _ hs];exact(hg.block k (Nat.lt_of_lt_of_le hlt hb.size) (fun e=>hk e.symm)).trans (hb.block k hlt)
 · exact(hblk.set' 2 (by simp) v2).set' 1 (by simp) (.int .i64 nx)
 · exact(hact.other (p:=⟨L.sb,2,none⟩) (by show L.sb≠m;omega) v2).other (p:=⟨L.sb,1,none⟩) (by show L.sb≠m;omega) _
 · exact row_heap ho (fun k hk=>by
     have hks:k≠L.sb:=fun e=>hv2 (by rw[hk,e])
     rw[Below.heap_setCell _ _ _ _ hks,Below.heap_setCell _ _ _ _ hks])
 · exact hat.imp id (fun e=>⟨_,e,hb.size,by omega⟩)
 · refine((Goes.of_below hb).trans (((Goes.grown hg (fun k hk=>SLoc.mem.2 (.inr (.inl hk)))).trans (Goes.setCell L.sb 2 v2 (SLoc.mem.2 (.inl rfl)))).trans (Goes.setCell L.sb 1 _ (SLoc.mem.2 (.inl rfl))))).change (fun k hk=> ?_);exact mem_add (n:=w.heap.size) hm (hat.imp id (fun e=>⟨_,e,hb.size⟩)) k hk
theorem ptr_one {p:Option Addr}:∀u∈[Value.pointer p],u.oneCell'=true:=by
 intro u hu;obtain rfl:=List.mem_singleton.1 hu;rfl
theorem opened_yes (L : SLoc) (S : Sto) (f : SFact) (w : World) (h : StoreAt L S w) (hG : StoGood S) (hq : 0 ≤ f.aq ∧ f.aq ≤ 999999) (hpa : 0 ≤ f.pa ∧ f.pa ≤ 8) (h1 : f.an = S.node) (h2 : S.next ≤ f.aq) (h3 : S.acts.length < 8) (h4 : 0 < f.pa → f.pa ≤ (S.parts.length : Int) ∧ schild S f.pa = none) :
    Calls Tryz.prog 84 #[.pointer (some ⟨L.sb,0,none⟩),factV f] w fun e w'=>e=.returned (.bool true)∧SGoes L {S with next:=f.aq+1,acts:=S.acts ++ [⟨f.an,f.aq,f.oc,f.dp,f.ex,f.pa,0,[]⟩]} w w':=by
 obtain⟨a,cap,hv,hn,hr⟩:=ptr_row h.acts;have HH:=qq (fun W (hB:Below w.heap.size w W)=>has_of L S (f.pa - 1) W (h.below hB));have HC:=qq (fun W (hB:Below w.heap.size w W)=>child_of L S f.pa W (h.below hB) hG);have H:=qq h;have hsb:=h.blk.lt;obtain⟨n,hnn⟩:∃n,n=S.acts.length:=⟨_,rfl⟩
 have HE:=qq (fun W w2 v2 (x:SAct) (m:Nat) (nx:Int) (h2:Below w.heap.size w W) (hm:w.heap.size≤m) (hbl:Blk W m (actC x (.slice none 0 0))) (hr:x.regs=[]) (h3:W.grownBy w2 L.av.ownBlock) (h4:w2.ownsRow 0 159 1 v2 (n+1) (ptrs L.ab ++ [.pointer (some ⟨m,0,none⟩)])) h5=>opened_end (nx:=nx) h h2 hm hbl hr h3 (by rw[←hnn];exact h4) h5)
 have HO:=qq (fun W (hW:StoreAt L S W)=>(show W.ownsRow 0 159 1 L.av n (ptrs L.ab) by rw[hnn];exact hW.acts));rw[←hnn] at hv h3;have HQ:=qq (fun W (hW:StoreAt L S W)=>(show W.cell? ⟨L.sb,2,none⟩=some (.slice a n cap) by rw[←hv];exact hW.blk.cell 2));have HV:=qq hv;obtain⟨i0,ei,ez,es,eb⟩:=info_parts infoActP;have c0:w.cell? ⟨L.sb,0,none⟩=some (.int .i64 S.node):=h.blk.cell 0
 have c1:w.cell? ⟨L.sb,1,none⟩=some (.int .i64 S.next):=h.blk.cell 1;have c2:=HQ.out _ h;have hb:=h.blk.free;obtain⟨k,an,aq,rg,nd,pt,pr,oc,dp,pa,st,hw,de,ex⟩:=f;dsimp only at h1 h2 h4 hq hpa HH HC;obtain⟨hpa0,hpa8⟩:=hpa;rw[←h1] at c0;obtain⟨nx0,hnx⟩:∃x,x=S.next:=⟨_,rfl⟩
 rw[←hnx] at c1 h2;obtain⟨hq0,hq1⟩:=hq;have hlt8:¬(8:Int)≤(n:Int):=by omega
 have hge:¬aq<nx0:=by omega
 have hne:(an !=an)=false:=by simp
 have d1:decide (aq<nx0)=false:=decide_eq_false hge;have d2:decide ((8:Int)≤(n:Int))=false:=decide_eq_false hlt8;dsimp only[factV,factC] at*;have HQ1:=qq (fun W (hW:StoreAt L S W)=>(show W.cell? ⟨L.sb,1,none⟩=some (.int .i64 nx0) by rw[hnx];exact hW.blk.cell 1));clear hn hr hnn h hG hv hnx h1 h2;by_cases hp:0<pa
 · have hh:decide (0≤pa - 1∧pa - 1<(S.parts.length:Int))=true:=decide_eq_true ⟨by omega,by have:=(h4 hp).1;omega⟩;rw[hh] at HH;rw[if_neg (by omega),(h4 hp).2] at HC;dsimp only[aptr,Option.bind] at HC;clear hh h4;go_enter Tryz.func84,Tryz.ntmps84;go_wp2_with fail;go_region
   all_goals go_wp2_with fail
   (with_reducible refine(HH.out _ (by go_grown)).mono ?_)
   rintro e w0 ⟨rfl,rfl⟩;go_wp2_with fail
   (with_reducible refine(HC.out _ (by go_grown)).mono ?_)
   rintro e w1 ⟨rfl,hb1⟩;have HK1:=qq (((Blk.fresh w #[k,an,aq,rg,nd,pt,pr,oc,dp,pa,st,hw,de,.float .f64 ex] 39 _ rfl).below (by go_grown)).below hb1);have B1:Below w.heap.size w w1:=below_then (by go_grown) hb1;have hz1:=hb1.size;simp only[World.size_alloc,World.size_drew] at hz1;have H1:=qq (H.out.below B1);have hs1:L.sb<w1.heap.size:=by omega
   have hs2:w.heap.size<w1.heap.size:=by omega
   have hs3:L.sb<w1.heap.size+1:=by omega
   have hs4:L.sb<w1.heap.size+1+1:=by omega
   have hs5:w.heap.size<w1.heap.size+1:=by omega
   have hs6:w.heap.size<w1.heap.size+1+1:=by omega
   clear c0 c1 c2 hb;obtain⟨q,qf⟩:=HK1.out.out;have c1:=HQ1.out _ H1.out;have c2:=HQ.out _ H1.out;have hb:=H1.out.blk.free;go_wp2_with fail
   go_region_law (go_loud (refine step_app rfl (.tmp 63) (.tmp 69) 152 rfl 0 159 i0 (.pointer none) 1 8 Tryz.underlying152 ei ez es eb rfl (by decide) (.slice a n cap) n (ptrs L.ab) (by rfl) (by rw[←HV.out];exact HO.out _ (H1.out.below (by go_grown))) ⟨w1.heap.size+1+1,0,none⟩ 1 1 [.pointer (some ⟨w1.heap.size+1,0,none⟩)] (by rfl) rfl (lit_cells (by first | exact(Blk.fresh _ _ _ _ (by simp)).drew | exact(Blk.fresh _ _ _ _ (by simp)).drew.drew | exact Blk.fresh _ _ _ _ (by simp))) ptr_one (by unfold maxLen;omega) (by omega) (Nat.zero_le _) ?_);intro v2 w2 hown2 hgrow2 hat2;rw[←HV.out] at hgrow2 hat2;have s2:w2.cell? ⟨L.sb,2,none⟩=some (.slice a n cap):=hgrow2.cell (HQ.out _ (H1.out.below (by go_grown))) (fun e=>H1.out.ne_top.1 e.symm);have s1:w2.cell? ⟨L.sb,1,none⟩=some (.int .i64 nx0):=hgrow2.cell (HQ1.out _ (H1.out.below (by go_grown))) (fun e=>H1.out.ne_top.1 e.symm);have HS2:=qq ((H1.out.below (by go_grown)).blk.same hgrow2.size (hgrow2.block _ (H1.out.below (by go_grown)).blk.lt (fun e=>H1.out.ne_top.1 e.symm)));have f2:=HS2.out.free;have HK2:=qq ((HK1.out.below (by go_grown)).same hgrow2.size (hgrow2.block _ (HK1.out.below (by go_grown)).lt (fun e=>by have:=(H.out.acts.lt _ e.symm).2;omega)));have HR:=qq (HE.out _ w2 v2 ⟨an,aq,oc,dp,ex,pa,0,[]⟩ (w1.heap.size+1) (aq+1) (below_then B1 (by go_grown)) (by omega) (((Blk.fresh (w1.alloc (.cells #[an,aq,oc,dp,.float .f64 ex] 48)) (actC ⟨an,aq,oc,dp,ex,pa,0,[]⟩ (.slice none 0 0)) 51 (w1.heap.size+1) (by simp)).alloc _).below (by go_grown)) rfl hgrow2 hown2 hat2);obtain⟨a2,cap2,rfl⟩:=row_slice hown2;clear hown2 hgrow2 hat2 q qf c1 c2 hb;obtain⟨q2,qf2⟩:=HK2.out.out)
   all_goals go_wp2_with fail
   all_goals go_ret
   all_goals exact⟨rfl,HR.out⟩
 · have hp0:¬(0:Int)<pa:=hp;clear HH HC h4 hp hpa0 hpa8;go_enter Tryz.func84,Tryz.ntmps84;go_wp2_with fail;go_region;have HK1:=qq (Blk.fresh w #[k,an,aq,rg,nd,pt,pr,oc,dp,pa,st,hw,de,.float .f64 ex] 39 _ rfl).drew;have B1:Below w.heap.size w (World.drew (w.alloc (.cells #[k,an,aq,rg,nd,pt,pr,oc,dp,pa,st,hw,de,.float .f64 ex] 39))):=by go_grown
   have hz1:w.heap.size+1≤(World.drew (w.alloc (.cells #[k,an,aq,rg,nd,pt,pr,oc,dp,pa,st,hw,de,.float .f64 ex] 39))).heap.size:=by simp
   generalize(World.drew (w.alloc (.cells #[k,an,aq,rg,nd,pt,pr,oc,dp,pa,st,hw,de,.float .f64 ex] 39)))=w1 at*;have H1:=qq (H.out.below B1);have hs1:L.sb<w1.heap.size:=by omega
   have hs2:w.heap.size<w1.heap.size:=by omega
   have hs3:L.sb<w1.heap.size+1:=by omega
   have hs4:L.sb<w1.heap.size+1+1:=by omega
   have hs5:w.heap.size<w1.heap.size+1:=by omega
   have hs6:w.heap.size<w1.heap.size+1+1:=by omega
   clear c0 c1 c2 hb;obtain⟨q,qf⟩:=HK1.out.out;have c1:=HQ1.out _ H1.out;have c2:=HQ.out _ H1.out;have hb:=H1.out.blk.free;go_wp2_with fail
   go_region_law (go_loud (refine step_app rfl (.tmp 63) (.tmp 69) 152 rfl 0 159 i0 (.pointer none) 1 8 Tryz.underlying152 ei ez es eb rfl (by decide) (.slice a n cap) n (ptrs L.ab) (by rfl) (by rw[←HV.out];exact HO.out _ (H1.out.below (by go_grown))) ⟨w1.heap.size+1+1,0,none⟩ 1 1 [.pointer (some ⟨w1.heap.size+1,0,none⟩)] (by rfl) rfl (lit_cells (by first | exact(Blk.fresh _ _ _ _ (by simp)).drew | exact(Blk.fresh _ _ _ _ (by simp)).drew.drew | exact Blk.fresh _ _ _ _ (by simp))) ptr_one (by unfold maxLen;omega) (by omega) (Nat.zero_le _) ?_);intro v2 w2 hown2 hgrow2 hat2;rw[←HV.out] at hgrow2 hat2;have s2:w2.cell? ⟨L.sb,2,none⟩=some (.slice a n cap):=hgrow2.cell (HQ.out _ (H1.out.below (by go_grown))) (fun e=>H1.out.ne_top.1 e.symm);have s1:w2.cell? ⟨L.sb,1,none⟩=some (.int .i64 nx0):=hgrow2.cell (HQ1.out _ (H1.out.below (by go_grown))) (fun e=>H1.out.ne_top.1 e.symm);have HS2:=qq ((H1.out.below (by go_grown)).blk.same hgrow2.size (hgrow2.block _ (H1.out.below (by go_grown)).blk.lt (fun e=>H1.out.ne_top.1 e.symm)));have f2:=HS2.out.free;have HK2:=qq ((HK1.out.below (by go_grown)).same hgrow2.size (hgrow2.block _ (HK1.out.below (by go_grown)).lt (fun e=>by have:=(H.out.acts.lt _ e.symm).2;omega)));have HR:=qq (HE.out _ w2 v2 ⟨an,aq,oc,dp,ex,pa,0,[]⟩ (w1.heap.size+1) (aq+1) (below_then B1 (by go_grown)) (by omega) (((Blk.fresh (w1.alloc (.cells #[an,aq,oc,dp,.float .f64 ex] 48)) (actC ⟨an,aq,oc,dp,ex,pa,0,[]⟩ (.slice none 0 0)) 51 (w1.heap.size+1) (by simp)).alloc _).below (by go_grown)) rfl hgrow2 hown2 hat2);obtain⟨a2,cap2,rfl⟩:=row_slice hown2;clear hown2 hgrow2 hat2 q qf c1 c2 hb;obtain⟨q2,qf2⟩:=HK2.out.out)
   all_goals go_wp2_with fail
   all_goals go_ret
   all_goals exact⟨rfl,HR.out⟩
end Go.Proofs.YtlkajejbfojkeaaGreatDoor
