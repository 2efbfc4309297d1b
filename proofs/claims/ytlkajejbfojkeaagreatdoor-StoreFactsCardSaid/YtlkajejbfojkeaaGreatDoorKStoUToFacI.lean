/- StoU, StoE, ParP, ParO, LeaP, StoV, RstA, FacH, FacI -/
import Derived.Test.YtlkajejbfojkeaaGreatDoorKFacDToStoC
import Derived.Deep.AppendLies
set_option linter.unusedSimpArgs false
set_option linter.unusedVariables false
set_option maxRecDepth 100000
set_option maxHeartbeats 16000000
namespace Go.Proofs.YtlkajejbfojkeaaGreatDoor
open Go.RowKit
theorem heap_seat (w:World) (g o:Nat) (t:MSeat) (k:Nat) (h:k≠g):(putSeat4 w g o t).heap[k]? =w.heap[k]? :=by
 unfold putSeat4;rw[Below.heap_setCell _ _ _ _ h,Below.heap_setCell _ _ _ _ h,Below.heap_setCell _ _ _ _ h,Below.heap_setCell _ _ _ _ h]
theorem size_seat (w:World) (g o:Nat) (t:MSeat):(putSeat4 w g o t).heap.size=w.heap.size:=by unfold putSeat4;simp
theorem StoreAt.parts_in {L:SLoc} {S:Sto} {w w':World} (h:StoreAt L S w) (ps:List SPart) (hz:w.heap.size≤w'.heap.size) (he:∀k,L.pv.ownBlock≠some k→k<w.heap.size→w'.heap[k]? =w.heap[k]?) (hrow:w'.ownsRow 0 61 7 L.pv ps.length (partsL ps)):StoreAt L {S with parts:=ps} w':=by
 have hn:=h.ne_top;refine⟨h.blk.same hz (he _ hn.2.1 h.blk.lt),row_heap h.acts (fun k hk=>he k (hn.2.2 k hk) (h.acts.lt k hk).2),hrow,fun j y b hy hb=> ?_,h.once⟩;obtain⟨b1,b2⟩:=h.act j y b hy hb;have hne:=h.ne_act hy;exact⟨b1.same hz (he _ hne.2.2.1 b1.lt),row_heap b2 (fun k hk=>he k (hne.2.2.2.2.2 k hk).2 (b2.lt k hk).2)⟩
theorem StoreAt.parts_to {L:SLoc} {S:Sto} {w w':World} (h:StoreAt L S w) (pv':Value) (ps:List SPart) (hz:w.heap.size≤w'.heap.size) (he:∀k,L.pv.ownBlock≠some k→k≠L.sb→k<w.heap.size→w'.heap[k]? =w.heap[k]?) (hblk:Blk w' L.sb #[S.node,S.next,L.av,pv']) (hrow:w'.ownsRow 0 61 7 pv' ps.length (partsL ps)) (hm:Moved L.foot L.pv pv'):StoreAt ⟨L.sb,L.av,pv',L.ab⟩ {S with parts:=ps} w':=by
 have hn:=h.ne_top;refine⟨hblk,row_heap h.acts (fun k hk=>he k (hn.2.2 k hk) (fun e=>hn.1 (by rw[hk,e])) (h.acts.lt k hk).2),hrow,fun j y b hy hb=> ?_,once_pv h.once hm⟩;obtain⟨b1,b2⟩:=h.act j y b hy hb;have hne:=h.ne_act hy;exact⟨b1.same hz (he _ hne.2.2.1 hne.1 b1.lt),row_heap b2 (fun k hk=>he k (hne.2.2.2.2.2 k hk).2 (fun e=>hne.2.2.2.2.1 (by rw[hk,e])) (b2.lt k hk).2)⟩
theorem ptrs_set (ab:List (Nat×Value)) (i:Nat) (x:Nat×Value) (v':Value) (hx:ab[i]? =some x):ptrs (ab.set i (x.1,v'))=ptrs ab:=by
 unfold ptrs;rw[List.map_set];obtain⟨hi,he⟩:=List.getElem?_eq_some_iff.1 hx;have e:(Value.pointer (some ⟨x.1,0,none⟩))=(ab.map fun x=>Value.pointer (some ⟨x.1,0,none⟩))[i]'(by simpa using hi):=by simp[he]
 show(ab.map fun x=>Value.pointer (some ⟨x.1,0,none⟩)).set i (Value.pointer (some ⟨x.1,0,none⟩))=_
 rw[e,List.set_getElem_self]
theorem StoreAt.act_in {L : SLoc} {S : Sto} {w w' : World} {i : Nat} {x : Nat × Value} {a : SAct} (h : StoreAt L S w) (hx : L.ab[i]? = some x) (ha : S.acts[i]? = some a) (v' : Value) (a' : SAct) (hz : w.heap.size ≤ w'.heap.size) (he : ∀ k, k ≠ x.1 → x.2.ownBlock ≠ some k → k < w.heap.size → w'.heap[k]? = w.heap[k]?) (hblk : Blk w' x.1 (actC a' v')) (hrow : w'.ownsRow 0 55 6 v' a'.regs.length (regsL a'.regs)) (hm : Moved L.foot x.2 v') :
    StoreAt ⟨L.sb,L.av,L.pv,L.ab.set i (x.1,v')⟩ {S with acts:=S.acts.set i a'} w':=by
 have hne:=h.ne_act hx;refine⟨h.blk.same hz (he _ (fun e=>hne.1 e.symm) hne.2.2.2.2.1 h.blk.lt),?_,row_heap h.parts (fun k hk=>he k (fun e=>hne.2.2.1 (by rw[hk,e])) (fun e=>(hne.2.2.2.2.2 k e).2 hk) (h.parts.lt k hk).2),fun j y b hy hb=> ?_,once_rv h.once hx hm⟩
 · show w'.ownsRow 0 _ 1 L.av (S.acts.set i a').length (ptrs (L.ab.set i (x.1,v')))
   rw[ptrs_set _ _ _ _ hx,List.length_set];exact row_heap h.acts (fun k hk=>he k (fun e=>hne.2.1 (by rw[hk,e])) (fun e=>(hne.2.2.2.2.2 k e).1 hk) (h.acts.lt k hk).2)
 · have hy':(L.ab.set i (x.1,v'))[j]? =some y:=hy;have hb':(S.acts.set i a')[j]? =some b:=hb;by_cases hij:i=j
   · subst hij;rw[List.getElem?_set_self (List.getElem?_eq_some_iff.1 hx).1] at hy';rw[List.getElem?_set_self (List.getElem?_eq_some_iff.1 ha).1] at hb';injection hy' with hy';injection hb' with hb'
     subst hy' hb';exact⟨hblk,hrow⟩
   · rw[List.getElem?_set_ne hij] at hy' hb';obtain⟨b1,b2⟩:=h.act j y b hy' hb';have h2:=h.ne_two hx hy' hij;have hno:∀k,(k=y.1∨y.2.ownBlock=some k)→k≠x.1∧x.2.ownBlock≠some k:=fun k hk=>⟨fun e=>h2 k (.inl e) hk,fun e=>h2 k (.inr e) hk⟩
     exact⟨b1.same hz (he _ (hno _ (.inl rfl)).1 (hno _ (.inl rfl)).2 b1.lt),row_heap b2 (fun k hk=>he k (hno _ (.inr hk)).1 (hno _ (.inr hk)).2 (b2.lt k hk).2)⟩
theorem StoreAt.acts_to {L : SLoc} {S : Sto} {w w' : World} (h : StoreAt L S w) (av' : Value) (m : Nat) (a : SAct) (nx : Int) (hr : a.regs = []) (hz : w.heap.size ≤ w'.heap.size) (hm : w.heap.size ≤ m) (he : ∀ k, L.av.ownBlock ≠ some k → k ≠ L.sb → k < w.heap.size → w'.heap[k]? = w.heap[k]?) (hblk : Blk w' L.sb #[S.node, nx, av', L.pv]) (hact : Blk w' m (actC a (.slice none 0 0))) (hrow : w'.ownsRow 0 159 1 av' (S.acts.length + 1) (ptrs L.ab ++ [.pointer (some ⟨m, 0, none⟩)])) (ha : av'.ownBlock = L.av.ownBlock ∨ ∃ k, av'.ownBlock = some k ∧ w.heap.size ≤ k ∧ k ≠ m) :
    StoreAt ⟨L.sb,av',L.pv,L.ab ++ [(m,.slice none 0 0)]⟩ {S with next:=nx,acts:=S.acts ++ [a]} w':=by
 have hn:=h.ne_top;have hmf:m∉L.foot:=fun hk=>by have:=h.lt m hk;omega
 refine⟨hblk,?_,row_heap h.parts (fun k hk=>he k (fun e=>hn.2.2 k e hk) (fun e=>hn.2.1 (by rw[hk,e])) (h.parts.lt k hk).2),fun j y b hy hb=> ?_,once_add h.once hmf (ha.imp id (fun⟨k,h1,h2,h3⟩=>⟨k,h1,fun hk=>by have:=h.lt k hk;omega,h3⟩))⟩
 · show w'.ownsRow 0 _ 1 av' (S.acts ++ [a]).length (ptrs (L.ab ++ [(m,.slice none 0 0)]))
   rw[List.length_append];unfold ptrs at hrow⊢;rw[List.map_append];exact hrow
 · have hl:=h.len;have hy':(L.ab ++ [(m,Value.slice none 0 0)])[j]? =some y:=hy;have hb':(S.acts ++ [a])[j]? =some b:=hb;by_cases hj:j<S.acts.length
   · rw[List.getElem?_append_left (by omega)] at hy';rw[List.getElem?_append_left hj] at hb';obtain⟨b1,b2⟩:=h.act j y b hy' hb';have hne:=h.ne_act hy';exact⟨b1.same hz (he _ hne.2.1 hne.1 b1.lt),row_heap b2 (fun k hk=>he k (hne.2.2.2.2.2 k hk).1 (fun e=>hne.2.2.2.2.1 (by rw[hk,e])) (b2.lt k hk).2)⟩
   · rw[List.getElem?_append_right (by omega)] at hy' hb';have hj':j=S.acts.length:=by
      have:=(List.getElem?_eq_some_iff.1 hb').1;simp at this;omega
     subst hj';rw[hl] at hy';simp at hy' hb';subst hy' hb';exact⟨hact,by rw[hr];exact World.ownsRow_nil _ _ _ _⟩
theorem StoreAt.acts_del {L : SLoc} {S : Sto} {w w' : World} {i : Nat} (h : StoreAt L S w) (av' : Value) (hi : i < S.acts.length) (hz : w.heap.size ≤ w'.heap.size) (he : ∀ k, L.av.ownBlock ≠ some k → k ≠ L.sb → k < w.heap.size → w'.heap[k]? = w.heap[k]?) (hblk : Blk w' L.sb #[S.node, S.next, av', L.pv]) (hrow : w'.ownsRow 0 159 1 av' (S.acts.length - 1) (ptrs (L.ab.eraseIdx i))) (ha : av'.ownBlock = L.av.ownBlock) :
    StoreAt ⟨L.sb,av',L.pv,L.ab.eraseIdx i⟩ {S with acts:=S.acts.eraseIdx i} w':=by
 have hn:=h.ne_top;refine⟨hblk,?_,row_heap h.parts (fun k hk=>he k (fun e=>hn.2.2 k e hk) (fun e=>hn.2.1 (by rw[hk,e])) (h.parts.lt k hk).2),fun j y b hy hb=> ?_,once_del i h.once ha⟩
 · show w'.ownsRow 0 _ 1 av' (S.acts.eraseIdx i).length _
   rw[List.length_eraseIdx_of_lt hi];exact hrow
 · have hy':(L.ab.eraseIdx i)[j]? =some y:=hy;have hb':(S.acts.eraseIdx i)[j]? =some b:=hb;have key:∀q,L.ab[q]? =some y→S.acts[q]? =some b→Blk w' y.1 (actC b y.2)∧w'.ownsRow 0 55 6 y.2 b.regs.length (regsL b.regs):=fun q hyq hbq=>by
    obtain⟨b1,b2⟩:=h.act q y b hyq hbq;have hne:=h.ne_act hyq;exact⟨b1.same hz (he _ hne.2.1 hne.1 b1.lt),row_heap b2 (fun k hk=>he k (hne.2.2.2.2.2 k hk).1 (fun e=>hne.2.2.2.2.1 (by rw[hk,e])) (b2.lt k hk).2)⟩
   rw[List.getElem?_eraseIdx] at hy' hb';by_cases hj:j<i
   · rw[if_pos hj] at hy' hb';exact key j hy' hb'
   · rw[if_neg hj] at hy' hb';exact key (j+1) hy' hb'
theorem step_app {w : World} {ops : Array Oper} {o : Oper} {a : Act} {K : Act → World → Prop} {Q : Exit → Act → World → Prop} {E : Prop} (hgd : o.guard = none) (s x : Operand) (t : TypeId)
    (ho:o.op=.call {callee:=.builtin .append,args:= #[s,x],argTypes:= #[t,t]})
    (base:Nat) (e:TypeId) (i:TypeInfo) (z:Value) (size bytes:Nat) (ht:Tryz.prog.underlying t=some (.slice e)) (hi:Tryz.prog.info? e=some i) (hz:i.zero=some z)
    (hsize:i.size=size) (hby:i.bytes=bytes) (hzs:z.cells.size=size) (hsz:0<size)
    (v:Value) (n:Nat) (xs:List Value) (hs:a.eval s=v) (hown:w.ownsRow base e size v n xs)
    (ad:Addr) (m c:Nat) (news:List Value) (hx:a.eval x=.slice (some ad) m c) (hl:news.length=m*size) (hnews:∀j u,news[j]? =some u→w.cell? (ad.add j)=some u) (h1:∀u∈news,u.oneCell'=true)
    (h63:n+m≤maxLen) (hbytes:(n+m)*bytes≤140737488355328) (hbase:base≤w.heap.size)
    (h:∀v' w',w'.ownsRow base e size v' (n+m) (xs ++news)→w.grownBy w' v.ownBlock→(v'.ownBlock=v.ownBlock∨v'.ownBlock=some w.heap.size)→K (a.put o.dst v') w'):
    if Region.wanted o (yielded ops a.tmps)=true then Oper.wp Tryz.prog o a w K Q else E:=by
 have hw:Region.wanted o (yielded ops a.tmps)=true:=by simp[Region.wanted,hgd]
 rw[if_pos hw];obtain⟨v',w',hr,h2,h3,h4,h5⟩:=run_append_own_at (P:=Tryz.prog) w base t o.type e i z size bytes ht hi hz hsize hby hzs hsz v n xs hown ad m c news hl hnews h1 h63 hbytes hbase;unfold Oper.wp;simp only[execOp,ho,resolve,invoke,builtin,Sem.run_bind,Sem.run_pure,Result.andThen_ok,List.map_toArray,List.map_cons,List.map_nil,hs,hx,hr];exact h v' w' h2 h3 h5
theorem infoPart:(Tryz.prog.info? 61).map (fun i=>(i.zero,i.size,i.bytes))=some (some (.agg #[.int .i64 0,.int .i64 0,.int .i64 0,.int .i64 0,.int .i64 0,.int .i64 0,.int .i64 0]),7,56):=by kernel_rfl
theorem infoReg:(Tryz.prog.info? 55).map (fun i=>(i.zero,i.size,i.bytes))=some (some (.agg #[.int .i64 0,.int .i64 0,.int .i64 0,.int .i64 0,.int .i64 0,.int .i64 0]),6,48):=by kernel_rfl
theorem infoActP:(Tryz.prog.info? 159).map (fun i=>(i.zero,i.size,i.bytes))=some (some (.pointer none),1,8):=by kernel_rfl
theorem lit_cells {W:World} {b:Nat} {l:List Value} (h:Blk W b l.toArray):∀j u,l[j]? =some u→W.cell? ((⟨b,0,none⟩:Addr).add j)=some u:=fun j u hu=>by
 rw[Addr.add_lit,Nat.zero_add,h.cell];simpa using hu
theorem Blk.set' {w:World} {b:Nat} {C:Array Value} (h:Blk w b C) (i:Nat) (hi:i<C.size) (v:Value):Blk (w.setCell ⟨b,i,none⟩ v) b (C.set i v hi):=by
 refine⟨by simpa using h.lt,fun j=> ?_,fun j=>by rw[World.frozen?_setCell];exact h.free j⟩;by_cases hj:j=i
 · subst hj;have h1:w.cell? ⟨b,j,none⟩=some C[j]:=by rw[h.cell];exact Array.getElem?_eq_getElem hi
   rw[World.cell?_setCell_same (h:=h1),Array.getElem?_set_self]
 · rw[World.cell?_setCell_other (h:=by intro e;injection e with _ e2;exact hj e2.symm),h.cell,Array.getElem?_set_ne];exact fun e=>hj e.symm
theorem joined_end {L : SLoc} {S : Sto} {w W w2 : World} {v2 : Value} {p : SPart} (h : StoreAt L S W) (hb : Below w.heap.size w W) (hg : W.grownBy w2 L.pv.ownBlock) (ho : w2.ownsRow 0 61 7 v2 (S.parts.length + 1) (partsL S.parts ++ partL p)) (hat : v2.ownBlock = L.pv.ownBlock ∨ v2.ownBlock = some W.heap.size) :
    SGoes L {S with parts:=S.parts ++ [p]} w (w2.setCell ⟨L.sb,3,none⟩ v2):=by
 have hn:=h.ne_top;have hm:Moved L.foot L.pv v2:=hat.imp id (fun e=>⟨_,e,fun hk=>by have:=h.lt _ hk;omega⟩);have hv2:v2.ownBlock≠some L.sb:=by
  rcases hat with e | e
  · rw[e];exact hn.2.1
  · rw[e];intro e';injection e' with e';have:=h.blk.lt;omega
 have hblk:Blk w2 L.sb #[S.node,S.next,L.av,L.pv]:=h.blk.same hg.size (hg.block _ h.blk.lt (fun e=>hn.2.1 e.symm));refine⟨⟨L.sb,L.av,v2,L.ab⟩,rfl,h.parts_to v2 _ (by simpa using hg.size) (fun k hk hs hlt=> ?_) ?_ ?_ hm,?_⟩
 · rw[Below.heap_setCell _ _ _ _ hs];exact hg.block k hlt (fun e=>hk e.symm)
 · exact hblk.set' 3 (by simp) v2
 · rw[List.length_append];refine row_heap ?_ (fun k hk=>Below.heap_setCell _ _ _ _ (fun e=>hv2 (by rw[hk,e])));unfold partsL at ho⊢;rw[List.flatMap_append];simpa using ho
 · refine((Goes.of_below hb).trans ((Goes.grown hg (fun k hk=>SLoc.mem.2 (.inr (.inr (.inl hk))))).trans (Goes.setCell L.sb 3 v2 (SLoc.mem.2 (.inl rfl))))).change (fun k hk=> ?_);rcases mem_pv (n:=W.heap.size) (hat.imp id (fun e=>⟨_,e,Nat.le_refl _⟩)) k hk with h1 | h1
   · exact .inl h1
   · exact .inr (Nat.le_trans hb.size h1)
theorem joined_yes (L : SLoc) (S : Sto) (f : SFact) (w : World) (h : StoreAt L S w) (hG : StoGood S) (hpr : 1 ≤ f.pr ∧ f.pr ≤ 2) (hi : f.pt = (S.parts.length : Int)) :
    Calls Tryz.prog 85 #[.pointer (some ⟨L.sb,0,none⟩),factV f] w fun e w'=>e=.returned (.bool true)∧SGoes L {S with parts:=S.parts ++ [⟨f.an,f.aq,-1,⟨f.pr,2,1,0⟩⟩]} w w':=by
 obtain⟨a,cap,hv,hn,hr⟩:=part_row h.parts;have hl:=hG.parts;have HN:=qq (fun W=>seatNew_of f.pr 2 W hpr (.inr rfl));have H:=qq h;have hsb:=h.blk.lt;obtain⟨n,hnn⟩:∃n,n=S.parts.length:=⟨_,rfl⟩
 have HE:=qq (fun W w2 v2 (p:SPart) (h1:StoreAt L S W) (h2:Below w.heap.size w W) (h3:W.grownBy w2 L.pv.ownBlock) (h4:w2.ownsRow 0 61 7 v2 (n+1) (partsL S.parts ++partL p)) h5=>joined_end h1 h2 h3 (by rw[←hnn];exact h4) h5);have HO:=qq (fun W (hW:StoreAt L S W)=>(show W.ownsRow 0 61 7 L.pv n (partsL S.parts) by rw[hnn];exact hW.parts));rw[←hnn] at hv hi hl
 have HQ:=qq (fun W (hW:StoreAt L S W)=>(show W.cell? ⟨L.sb,3,none⟩=some (.slice a n cap) by rw[←hv];exact hW.blk.cell 3));have HV:=qq hv;obtain⟨i0,ei,ez,es,eb⟩:=info_parts infoPart;obtain⟨k,an,aq,rg,nd,pt,pr,oc,dp,pa,st,hw,de,ex⟩:=f;dsimp only at hi HN;subst hi;dsimp only[factV,factC] at*;clear hn hr hnn h hG hv hpr;go_enter Tryz.func85,Tryz.ntmps85;go_wp2_with fail;refine(HN.out _).mono ?_
 rintro e w1 ⟨rfl,hb1⟩;have HK1:=qq ((Blk.fresh w #[k,an,aq,rg,nd,(n:Int),pr,oc,dp,pa,st,hw,de,.float .f64 ex] 39 _ rfl).below hb1);have B1:Below w.heap.size w w1:=below_then (by go_grown) hb1;have H1:=qq (H.out.below B1);have hz1:=hb1.size;simp only[World.size_alloc] at hz1;have hs1:L.sb<w1.heap.size:=by omega
 have hs2:w.heap.size<w1.heap.size:=by omega
 obtain⟨q,qf⟩:=HK1.out.out;have c3:=HQ.out _ H1.out;have hb:=H1.out.blk.free;go_wp2_with fail;have hne:((n:Int) !=(n:Int))=false:=by simp
 go_region;go_wp2_with fail;clear hne
 go_region_law (refine step_app rfl (.tmp 29) (.tmp 34) 58 rfl 0 61 i0 (.agg #[.int .i64 0,.int .i64 0,.int .i64 0,.int .i64 0,.int .i64 0,.int .i64 0,.int .i64 0]) 7 56 Tryz.underlying58 ei ez es eb rfl (by decide) (.slice a n cap) n (partsL S.parts) (by rfl) (by rw[←HV.out];exact HO.out _ (H1.out.below (by go_grown))) ⟨w1.heap.size+1,0,none⟩ 1 1 (partL ⟨an,aq,-1,⟨pr,2,1,0⟩⟩) (by rfl) rfl (lit_cells (Blk.fresh _ _ _ _ (by simp)).drew.drew) (partL_one _) (by unfold maxLen;omega) (by omega) (Nat.zero_le _) ?_;intro v2 w2 hown2 hgrow2 hat2;rw[←HV.out] at hgrow2 hat2;have s2:w2.cell? ⟨L.sb,3,none⟩=some (.slice a n cap):=hgrow2.cell (HQ.out _ (H1.out.below (by go_grown))) (fun e=>H1.out.ne_top.2.1 e.symm);have f2:w2.frozen? ⟨L.sb,3,none⟩=false:=(World.frozen?_of_block (a:=⟨L.sb,3,none⟩) (hgrow2.block _ (World.block_lt_of_cell? _ _ (HQ.out _ (H1.out.below (by go_grown)))) (fun e=>H1.out.ne_top.2.1 e.symm))).trans ((H1.out.below (by go_grown)).blk.free 3);have HR:=qq (HE.out _ w2 v2 ⟨an,aq,-1,⟨pr,2,1,0⟩⟩ (H1.out.below (by go_grown)) (below_then B1 (by go_grown)) hgrow2 hown2 hat2);obtain⟨a2,c2,rfl⟩:=row_slice hown2;clear hown2 hgrow2 hat2)
 all_goals go_wp2_with fail
 all_goals go_ret
 all_goals exact⟨rfl,HR.out⟩
theorem joined_no (L : SLoc) (S : Sto) (f : SFact) (w : World) (h : StoreAt L S w) (hG : StoGood S) (hpr : 1 ≤ f.pr ∧ f.pr ≤ 2) (hi : f.pt ≠ (S.parts.length : Int)) :
    Calls Tryz.prog 85 #[.pointer (some ⟨L.sb,0,none⟩),factV f] w fun e w'=>e=.returned (.bool false)∧SGoes L S w w':=by
 obtain⟨a,cap,hv,hn,hr⟩:=part_row h.parts;have hl:=hG.parts;have HN:=qq (fun W=>seatNew_of f.pr 2 W hpr (.inr rfl));have H:=qq h;have hsb:=h.blk.lt;obtain⟨n,hnn⟩:∃n,n=S.parts.length:=⟨_,rfl⟩
 have HO:=qq (fun W (hW:StoreAt L S W)=>(show W.ownsRow 0 61 7 L.pv n (partsL S.parts) by rw[hnn];exact hW.parts));rw[←hnn] at hv hi hl;have HQ:=qq (fun W (hW:StoreAt L S W)=>(show W.cell? ⟨L.sb,3,none⟩=some (.slice a n cap) by rw[←hv];exact hW.blk.cell 3));have HV:=qq hv;obtain⟨i0,ei,ez,es,eb⟩:=info_parts infoPart;obtain⟨k,an,aq,rg,nd,pt,pr,oc,dp,pa,st,hw,de,ex⟩:=f;dsimp only at hi HN
 dsimp only[factV,factC] at*;have HI:=qq hi;clear hn hr hnn h hG hv hpr hi;go_enter Tryz.func85,Tryz.ntmps85;go_wp2_with fail;refine(HN.out _).mono ?_;rintro e w1 ⟨rfl,hb1⟩;have HK1:=qq ((Blk.fresh w #[k,an,aq,rg,nd,pt,pr,oc,dp,pa,st,hw,de,.float .f64 ex] 39 _ rfl).below hb1);have B1:Below w.heap.size w w1:=below_then (by go_grown) hb1;have H1:=qq (H.out.below B1);have hz1:=hb1.size
 simp only[World.size_alloc] at hz1;have hs1:L.sb<w1.heap.size:=by omega
 have hs2:w.heap.size<w1.heap.size:=by omega
 obtain⟨q,qf⟩:=HK1.out.out;have c3:=HQ.out _ H1.out;have hb:=H1.out.blk.free;go_wp2_with fail;have hne:(pt !=(n:Int))=true:=by simpa using HI.out
 go_region
 all_goals go_wp2_with fail
 all_goals go_ret
 all_goals exact⟨rfl,SGoes.same H.out (below_then B1 (by go_grown))⟩
structure SMsg where
 k:Int
 fr:Int
 to:Int
 an:Int
 aq:Int
 rg:Int
 pt:Int
 pr:Int
 co:Int
 deriving DecidableEq
structure SRes where
 fs:List SFact
 ms:List SMsg
 wk:Int
def pGet (S:Sto) (pt:Int):Option SPart:=if 0≤pt then S.parts[pt.toNat]? else none
def part0:SPart:=⟨0,0,0,⟨0,0,0,0⟩⟩
def sfit:Sto→List SFact→Sto×Bool
 | S,[]=>(S,true)
 | S,f::t=>if(sapply S f).2=0 then sfit (sapply S f).1 t else((sapply S f).1,false)
/-! a seat that is right: what comes of telling it, by a finite look -/
theorem pGet_some {S:Sto} {pt:Int} {p:SPart} (h:pGet S pt=some p):0≤pt∧pt.toNat<S.parts.length∧S.parts[pt.toNat]? =some p∧p∈S.parts:=by
 unfold pGet at h;split at h
 · rename_i h0
   exact⟨h0,(List.getElem?_eq_some_iff.1 h).1,h,List.mem_of_getElem? h⟩
 · cases h
def lGet (S:Sto) (n q:Int):Option (Nat×SAct):=match sfind S n q with
 | none=>none
 | some i=>match S.acts[i]? with
  | none=>none
  | some a=>some (i,a)
theorem lGet_some {S:Sto} {n q:Int} {i:Nat} {a:SAct} (h:lGet S n q=some (i,a)):sfind S n q=some i∧S.acts[i]? =some a∧a∈S.acts∧a.an=n∧a.aq=q:=by
 unfold lGet at h
 cases hi:sfind S n q with
 | none=>rw[hi] at h;cases h
 | some j=>
  rw[hi] at h;simp only at h
  cases ha:S.acts[j]? with
  | none=>rw[ha] at h;cases h
  | some b=>
   rw[ha] at h;injection h with h
   injection h with h1 h2
   subst h1 h2;refine⟨rfl,ha,List.mem_of_getElem? ha,?_⟩;unfold sfind at hi;obtain⟨hj,hq,_⟩:=List.findIdx?_eq_some_iff_getElem.1 hi;obtain⟨hj',he⟩:=List.getElem?_eq_some_iff.1 ha;rw[he] at hq;simpa using hq
attribute [local go_sem] store_float
theorem node_of (L:SLoc) (S:Sto) (w:World) (h:StoreAt L S w):Calls Tryz.prog 94 #[.pointer (some ⟨L.sb,0,none⟩)] w (Gives (.int .i64 S.node) w):=by
 have c0:w.cell? ⟨L.sb,0,none⟩=some (.int .i64 S.node):=h.blk.cell 0;clear h;generalize S.node=x at*;go_enter Tryz.func94,Tryz.ntmps94;go_wp2;go_ret;exact⟨rfl,rfl⟩
theorem next_of (L:SLoc) (S:Sto) (w:World) (h:StoreAt L S w):Calls Tryz.prog 95 #[.pointer (some ⟨L.sb,0,none⟩)] w (Gives (.int .i64 S.next) w):=by
 have c0:w.cell? ⟨L.sb,1,none⟩=some (.int .i64 S.next):=h.blk.cell 1;clear h;generalize S.next=x at*;go_enter Tryz.func95,Tryz.ntmps95;go_wp2;go_ret;exact⟨rfl,rfl⟩
abbrev partA (p:SPart):Array Value:= #[.int .i64 p.an,.int .i64 p.aq,.int .i64 p.rg,.int .i64 p.seat.p,.int .i64 p.seat.d,.int .i64 p.seat.s,.int .i64 p.seat.h]
theorem part_no (L:SLoc) (S:Sto) (pt:Int) (w:World) (h:StoreAt L S w) (hp:pGet S pt=none):Calls Tryz.prog 33 #[.pointer (some ⟨L.sb,0,none⟩),.int .i64 pt] w (Makes (.tuple #[.agg (partA part0),.bool false]) w):=by
 have hH:=fun W (hW:StoreAt L S W)=>has_of L S pt W hW
 have hf:¬(0≤pt∧pt<(S.parts.length:Int)):=by
  rintro⟨h1,h2⟩;unfold pGet at hp;rw[if_pos h1] at hp;have:=List.getElem?_eq_none_iff.1 hp;omega
 rw[decide_eq_false hf] at hH;have HH:=qq hH;have H:=qq h;clear hH h hp hf;go_enter Tryz.func33,Tryz.ntmps33;go_wp2_with fail
 (with_reducible refine(HH.out _ (H.out.below (by go_grown))).mono ?_)
 rintro e w1 ⟨rfl,rfl⟩;go_wp2_with fail;exact bodyPost_ret (v:=.tuple #[.agg #[.int .i64 0,.int .i64 0,.int .i64 0,.int .i64 0,.int .i64 0,.int .i64 0,.int .i64 0],.bool false]) (by simp[results,Tryz.results33,go_sem]) rfl ⟨rfl,by go_grown⟩
theorem part_yes (L:SLoc) (S:Sto) (pt:Int) (p:SPart) (w:World) (h:StoreAt L S w) (hl:S.parts.length≤8) (hp:pGet S pt=some p):Calls Tryz.prog 33 #[.pointer (some ⟨L.sb,0,none⟩),.int .i64 pt] w (Makes (.tuple #[.agg (partA p),.bool true]) w):=by
 have hH:=fun W (hW:StoreAt L S W)=>has_of L S pt W hW
 obtain⟨h0,h1,h2,_⟩:=pGet_some hp;obtain⟨i,rfl⟩:∃i:Nat,pt=i:=⟨pt.toNat,by omega⟩
 rw[Int.toNat_natCast] at h1 h2;obtain⟨a,cap,hv,hn,hrow⟩:=part_row h.parts;obtain⟨g,rfl,hg,hfz,hcell⟩:=hrow (by omega);obtain⟨p0,p1,p2,p3,p4,p5,p6⟩:=hcell i p h2;have c3:w.cell? ⟨L.sb,3,none⟩=some (.slice (some ⟨g,0,none⟩) S.parts.length cap):=by rw[←hv];exact h.blk.cell 3
 have hT:decide ((0:Int)≤(i:Int)∧(i:Int)<(S.parts.length:Int))=true:=decide_eq_true ⟨by omega,by omega⟩;rw[hT] at hH;have hsb:=h.blk.lt;obtain⟨n,hnn⟩:∃n,n=S.parts.length:=⟨_,rfl⟩
 rw[←hnn] at c3 h1 hl;have HH:=qq hH;have H:=qq h;have hi0:(0:Int)≤(i:Int):=by omega
 have hi1:(i:Int)<(n:Int):=by omega
 obtain⟨pan,paq,prg,⟨sp,sd,ss,sh⟩⟩:=p;dsimp only[partA] at*;clear hH h hp hT hn hrow hcell hnn hv h0 h2 hfz;go_enter Tryz.func33,Tryz.ntmps33;go_wp2_with fail
 (with_reducible refine(HH.out _ (H.out.below (by go_grown))).mono ?_)
 rintro e w1 ⟨rfl,rfl⟩;go_wp2_with fail
 (try go_region)
 all_goals (try go_wp2_with fail)
 all_goals exact bodyPost_ret (v:=.tuple #[.agg #[pan,paq,prg,sp,sd,ss,sh],.bool true]) (by simp[results,Tryz.results33,go_sem]) rfl ⟨rfl,by go_grown⟩
theorem cloneReg_of (v : Value) (xs : List SReg) (w : World) (h : w.ownsRow 0 55 6 v xs.length (regsL xs)) (hl : xs.length ≤ 1000) :
    Calls Tryz.prog 202 #[v] w fun e w'=>∃v',e=.returned v'∧w'.ownsRow w.heap.size 55 6 v' xs.length (regsL xs)∧Below w.heap.size w w':=by
 obtain⟨i0,ei,ez,es,eb⟩:=info_parts infoReg;have q22:∀(w:World) (a:Option Addr) (n c n' c':Nat),(binOp .eql 49 (.slice a n c) (.slice none n' c')).run Tryz.prog w=.ok (.bool a.isNone) w:=fun w a n c n' c'=>Lib.run_eql_slice_nil w _ _ a n c n' c' Tryz.underlying49
 rcases h.2 with⟨rfl,h0⟩ | ⟨g,cap,cur,rfl,hb,hg,hnc,hcm,hcs,htake⟩
 · have hx:xs=[]:=List.eq_nil_of_length_eq_zero h0;subst hx;clear h h0;go_enter Tryz.func202,Tryz.ntmps202;go_wp2;go_ret;exact⟨_,rfl,World.ownsRow_nil _ _ _ _,Below.refl _ _⟩
 · have hown0:(w.alloc (.cells #[] 55)).ownsRow w.heap.size 55 6 (.slice (some ⟨w.heap.size,0,none⟩) 0 0) 0 []:=
    World.ownsRow_lit w #[] 0 (Nat.le_refl _) (by decide) rfl
   have hcells:Hid (∀j u,(regsL xs)[j]? =some u→(w.alloc (.cells #[] 55)).cell? ((⟨g,0,none⟩:Addr).add j)=some u):=(h.alloc _).cells (g:=g) rfl;have h1:Hid (∀u∈regsL xs,u.oneCell'=true):=flat_one regL regL_one xs;have hlen:Hid ((regsL xs).length=xs.length*6):=flat_length _ 6 regL_len xs;clear htake hcs hg h;obtain⟨n,hn⟩:∃n,n=xs.length:=⟨_,rfl⟩
   rw[←hn] at hl hnc hlen⊢;clear hn;go_enter Tryz.func202,Tryz.ntmps202;go_wp2_with (at_builtin;go_loud (refine wpList_append_own_at _ rfl _ _ 49 rfl w.heap.size 55 i0 (.agg #[.int .i64 0,.int .i64 0,.int .i64 0,.int .i64 0,.int .i64 0,.int .i64 0]) 6 48 Tryz.underlying49 ei ez es eb rfl (by decide) _ 0 [] rfl hown0 ⟨g,0,none⟩ n cap (regsL xs) rfl hlen.out hcells.out h1.out ?c3 ?c4 ?c5 ?_))
   case c3=>unfold maxLen;omega
   case c4=>omega
   case c5=>simp
   · intro v' w1 hown1 hgrow _ hat
     (try simp only[Nat.zero_add,List.nil_append] at hown1)
     have hB:Below w.heap.size w w1:=((Below.refl _ _).alloc (Nat.le_refl _) _).grown hgrow (by simp) (fun k hk=>by simp[Value.ownBlock] at hk;omega);have HO:=qq hown1;obtain⟨a',cap',rfl⟩:=row_slice hown1;clear hown1 hgrow hat hcells h1 hlen;go_wp2;go_ret;exact⟨_,rfl,HO.out,hB⟩
theorem clonePart_of (v : Value) (xs : List SPart) (w : World) (h : w.ownsRow 0 61 7 v xs.length (partsL xs)) (hl : xs.length ≤ 1000) :
    Calls Tryz.prog 101 #[v] w fun e w'=>∃v',e=.returned v'∧w'.ownsRow w.heap.size 61 7 v' xs.length (partsL xs)∧Below w.heap.size w w':=by
 obtain⟨i0,ei,ez,es,eb⟩:=info_parts infoPart;have q22:∀(w:World) (a:Option Addr) (n c n' c':Nat),(binOp .eql 58 (.slice a n c) (.slice none n' c')).run Tryz.prog w=.ok (.bool a.isNone) w:=fun w a n c n' c'=>Lib.run_eql_slice_nil w _ _ a n c n' c' Tryz.underlying58
 rcases h.2 with⟨rfl,h0⟩ | ⟨g,cap,cur,rfl,hb,hg,hnc,hcm,hcs,htake⟩
 · have hx:xs=[]:=List.eq_nil_of_length_eq_zero h0;subst hx;clear h h0;go_enter Tryz.func101,Tryz.ntmps101;go_wp2;go_ret;exact⟨_,rfl,World.ownsRow_nil _ _ _ _,Below.refl _ _⟩
 · have hown0:(w.alloc (.cells #[] 61)).ownsRow w.heap.size 61 7 (.slice (some ⟨w.heap.size,0,none⟩) 0 0) 0 []:=
    World.ownsRow_lit w #[] 0 (Nat.le_refl _) (by decide) rfl
   have hcells:Hid (∀j u,(partsL xs)[j]? =some u→(w.alloc (.cells #[] 61)).cell? ((⟨g,0,none⟩:Addr).add j)=some u):=(h.alloc _).cells (g:=g) rfl;have h1:Hid (∀u∈partsL xs,u.oneCell'=true):=flat_one partL partL_one xs;have hlen:Hid ((partsL xs).length=xs.length*7):=flat_length _ 7 partL_len xs;clear htake hcs hg h;obtain⟨n,hn⟩:∃n,n=xs.length:=⟨_,rfl⟩
   rw[←hn] at hl hnc hlen⊢;clear hn;go_enter Tryz.func101,Tryz.ntmps101
   go_wp2_with (at_builtin;go_loud (refine wpList_append_own_at _ rfl _ _ 58 rfl w.heap.size 61 i0 (.agg #[.int .i64 0,.int .i64 0,.int .i64 0,.int .i64 0,.int .i64 0,.int .i64 0,.int .i64 0]) 7 56 Tryz.underlying58 ei ez es eb rfl (by decide) _ 0 [] rfl hown0 ⟨g,0,none⟩ n cap (partsL xs) rfl hlen.out hcells.out h1.out ?c3 ?c4 ?c5 ?_))
   case c3=>unfold maxLen;omega
   case c4=>omega
   case c5=>simp
   · intro v' w1 hown1 hgrow _ hat
     (try simp only[Nat.zero_add,List.nil_append] at hown1)
     have hB:Below w.heap.size w w1:=((Below.refl _ _).alloc (Nat.le_refl _) _).grown hgrow (by simp) (fun k hk=>by simp[Value.ownBlock] at hk;omega);have HO:=qq hown1;obtain⟨a',cap',rfl⟩:=row_slice hown1;clear hown1 hgrow hat hcells h1 hlen;go_wp2;go_ret;exact⟨_,rfl,HO.out,hB⟩
theorem row_up {w:World} {B B':Nat} {e:TypeId} {size:Nat} {v:Value} {n:Nat} {xs:List Value} (h:w.ownsRow B e size v n xs) (hB:∀k,v.ownBlock=some k→B'≤k):w.ownsRow B' e size v n xs:=by
 refine⟨h.1,?_⟩;rcases h.2 with h | ⟨g,cap,cur,rfl,h2,h3⟩
 · exact .inl h
 · exact .inr ⟨g,cap,cur,rfl,hB g rfl,h3⟩
theorem row_base {w:World} {B B':Nat} {e:TypeId} {size:Nat} {v:Value} {n:Nat} {xs:List Value} (h:w.ownsRow B' e size v n xs) (hB:B≤B'):w.ownsRow B e size v n xs:=by
 refine⟨h.1,?_⟩;rcases h.2 with h | ⟨g,cap,cur,h1,h2,h3⟩
 · exact .inl h
 · exact .inr ⟨g,cap,cur,h1,Nat.le_trans hB h2,h3⟩
theorem parts_of (L:SLoc) (S:Sto) (w:World) (h:StoreAt L S w) (hl:S.parts.length≤8):Calls Tryz.prog 26 #[.pointer (some ⟨L.sb,0,none⟩)] w fun e w'=>∃v',e=.returned v'∧w'.ownsRow w.heap.size 61 7 v' S.parts.length (partsL S.parts)∧Below w.heap.size w w':=by
 have c3:w.cell? ⟨L.sb,3,none⟩=some L.pv:=h.blk.cell 3;have HC:=qq (clonePart_of L.pv S.parts w h.parts (by omega));obtain⟨a,cap,hv,_⟩:=part_row h.parts;rw[hv] at c3 HC;obtain⟨n,hn⟩:∃n,n=S.parts.length:=⟨_,rfl⟩
 rw[←hn] at c3 HC⊢;clear h hv hl hn;go_enter Tryz.func26,Tryz.ntmps26;go_wp2_with fail;refine HC.out.mono ?_;rintro e w1 ⟨v',rfl,ho,hb⟩;have HO:=qq ho;obtain⟨a',cap',rfl⟩:=row_slice ho;clear ho;go_wp2_with fail;go_ret;exact⟨_,rfl,HO.out,hb⟩
def ActOut (a:SAct) (w:World) (e:Ending) (w':World):Prop:=∃v',e=.returned (.tuple #[.agg (actC a v'),.bool true])∧w'.ownsRow w.heap.size 55 6 v' a.regs.length (regsL a.regs)∧Below w.heap.size w w'
abbrev act0V:Value:=.agg #[.int .i64 0,.int .i64 0,.int .i64 0,.int .i64 0,.float .f64 0,.int .i64 0,.int .i64 0,.slice none 0 0]
abbrev put8 (w:World) (b:Nat) (x0 x1 x2 x3 x4 x5 x6 x7:Value):World:=(((((((w.setCell ⟨b,0,none⟩ x0).setCell ⟨b,1,none⟩ x1).setCell ⟨b,2,none⟩ x2).setCell ⟨b,3,none⟩ x3).setCell ⟨b,4,none⟩ x4).setCell ⟨b,5,none⟩ x5).setCell ⟨b,6,none⟩ x6).setCell ⟨b,7,none⟩ x7
theorem heap8 (w:World) (b:Nat) (x0 x1 x2 x3 x4 x5 x6 x7:Value) (k:Nat) (hk:k≠b):(put8 w b x0 x1 x2 x3 x4 x5 x6 x7).heap[k]? =w.heap[k]? :=by
 unfold put8;rw[Below.heap_setCell _ _ _ _ hk,Below.heap_setCell _ _ _ _ hk,Below.heap_setCell _ _ _ _ hk,Below.heap_setCell _ _ _ _ hk,Below.heap_setCell _ _ _ _ hk,Below.heap_setCell _ _ _ _ hk,Below.heap_setCell _ _ _ _ hk,Below.heap_setCell _ _ _ _ hk]
theorem below8 {B:Nat} {w0 w:World} (h:Below B w0 w) (b:Nat) (hb:B≤b) (x0 x1 x2 x3 x4 x5 x6 x7:Value):Below B w0 (put8 w b x0 x1 x2 x3 x4 x5 x6 x7):=
 (((((((h.setCell (p:=⟨b,0,none⟩) hb _).setCell (p:=⟨b,1,none⟩) hb _).setCell (p:=⟨b,2,none⟩) hb _).setCell (p:=⟨b,3,none⟩) hb _).setCell (p:=⟨b,4,none⟩) hb _).setCell (p:=⟨b,5,none⟩) hb _).setCell (p:=⟨b,6,none⟩) hb _).setCell (p:=⟨b,7,none⟩) hb _
theorem copied_of (a:SAct) (v:Value) (w:World) (h:w.ownsRow 0 55 6 v a.regs.length (regsL a.regs)) (hl:a.regs.length≤6):Calls Tryz.prog 99 #[.agg (actC a v)] w fun e w'=>∃v',e=.returned (.agg (actC a v'))∧w'.ownsRow w.heap.size 55 6 v' a.regs.length (regsL a.regs)∧Below w.heap.size w w':=by
 have hC:=fun W (hW:Below w.heap.size w W)=>cloneReg_of v a.regs W (row_heap h (fun k hk=>hW.block k (h.lt k hk).2)) (by omega)
 obtain⟨aa,cap,hv,_⟩:=reg_row h;subst hv;obtain⟨n,hn⟩:∃n,n=a.regs.length:=⟨_,rfl⟩
 rw[←hn] at hC⊢;obtain⟨rs,hrs⟩:∃rs,rs=a.regs:=⟨_,rfl⟩
 rw[←hrs] at hC⊢;obtain⟨an,aq,oc,dp,ex,pa,de,regs⟩:=a;dsimp only[actC] at*;have HC:=qq hC;clear h hC hl hn hrs;go_enter Tryz.func99,Tryz.ntmps99;go_wp2_with fail;refine(HC.out _ (by go_grown)).mono ?_;rintro e w1 ⟨v',rfl,ho,hb⟩
 have HB1:=qq (((Blk.fresh w #[an,aq,oc,dp,.float .f64 ex,pa,de,.slice aa n cap] 51 _ rfl).alloc (.cells #[.int .i64 0,.int .i64 0,.int .i64 0,.int .i64 0,.float .f64 0,.int .i64 0,.int .i64 0,.slice none 0 0] 51)).below hb)
 have HV:=qq ((Blk.fresh (w.alloc (.cells #[an,aq,oc,dp,.float .f64 ex,pa,de,.slice aa n cap] 51)) #[.int .i64 0,.int .i64 0,.int .i64 0,.int .i64 0,.float .f64 0,.int .i64 0,.int .i64 0,.slice none 0 0] 51 (w.heap.size+1) (by simp)).below hb);have B1:Below w.heap.size w w1:=below_then (by go_grown) hb;have hlt:=HB1.out.lt;have hlt2:=HV.out.lt
 have hk:∀k,v'.ownBlock=some k→w.heap.size+2≤k:=fun k e=>by have:=(ho.lt _ e).1;simp at this;omega
 have HR:=qq (row_up ho (fun k e=>Nat.le_trans (show w.heap.size≤w.heap.size+2 by omega) (hk k e)));have HK:=qq hk;obtain⟨q,qf⟩:=HB1.out.out;obtain⟨qv,fv⟩:=HV.out.out;obtain⟨a',cap',rfl⟩:=row_slice ho;clear ho hb hk;go_wp2_with fail
 refine bodyPost_ret (v:=.agg #[an,aq,oc,dp,.float .f64 ex,pa,de,.slice a' n cap']) (by simp[results,Tryz.results99,go_sem,q,qf,qv,fv]) rfl ⟨_,rfl,row_heap HR.out (fun k hk=> ?_),below8 (B1.setCell (Nat.le_refl _) _) _ (by omega) _ _ _ _ _ _ _ _⟩;have:=HK.out k hk;exact(heap8 _ _ _ _ _ _ _ _ _ _ k (by omega)).trans (Below.heap_setCell _ _ _ _ (by show k≠w.heap.size;omega))
theorem got_no (w:World):Calls Tryz.prog 100 #[.pointer none] w (Makes (.tuple #[act0V,.bool false]) w):=by
 go_enter Tryz.func100,Tryz.ntmps100;go_wp2_with fail;exact bodyPost_ret (v:=.tuple #[.agg #[.int .i64 0,.int .i64 0,.int .i64 0,.int .i64 0,.float .f64 0,.int .i64 0,.int .i64 0,.slice none 0 0],.bool false]) (by simp[results,Tryz.results100,go_sem]) rfl ⟨rfl,by go_grown⟩
theorem got_yes (b:Nat) (a:SAct) (v:Value) (w:World) (hb:Blk w b (actC a v)) (h:w.ownsRow 0 55 6 v a.regs.length (regsL a.regs)) (hl:a.regs.length≤6):Calls Tryz.prog 100 #[.pointer (some ⟨b,0,none⟩)] w (ActOut a w):=by
 have hC:=fun W (hW:Below w.heap.size w W)=>copied_of a v W (row_heap h (fun k hk=>hW.block k (h.lt k hk).2)) hl
 obtain⟨aa,cap,hv,_⟩:=reg_row h;subst hv;obtain⟨q,qf⟩:=hb.out;have hbl:=hb.lt;obtain⟨n,hn⟩:∃n,n=a.regs.length:=⟨_,rfl⟩
 unfold ActOut;rw[←hn] at hC q⊢;obtain⟨rs,hrs⟩:∃rs,rs=a.regs:=⟨_,rfl⟩
 rw[←hrs] at hC⊢;obtain⟨an,aq,oc,dp,ex,pa,de,regs⟩:=a;dsimp only[actC] at*;have HC:=qq hC;clear h hC hl hn hrs hb;go_enter Tryz.func100,Tryz.ntmps100;go_wp2_with fail;refine(HC.out _ (by go_grown)).mono ?_;rintro e w1 ⟨v',rfl,ho,hb⟩;have B1:Below w.heap.size w w1:=below_then (by go_grown) hb
 have HV:=qq ((Blk.fresh w #[.int .i64 0,.int .i64 0,.int .i64 0,.int .i64 0,.float .f64 0,.int .i64 0,.int .i64 0,.slice none 0 0] 51 _ rfl).below hb);have hlt2:=HV.out.lt;have hk:∀k,v'.ownBlock=some k→w.heap.size+1≤k:=fun k e=>by have:=(ho.lt _ e).1;simp at this;omega
 have HR:=qq (row_up ho (fun k e=>Nat.le_trans (show w.heap.size≤w.heap.size+1 by omega) (hk k e)));have HK:=qq hk;obtain⟨qv,fv⟩:=HV.out.out;obtain⟨a',cap',rfl⟩:=row_slice ho;clear ho hb hk q qf;go_wp2_with fail
 refine bodyPost_ret (v:=.tuple #[.agg #[an,aq,oc,dp,.float .f64 ex,pa,de,.slice a' n cap'],.bool true]) (by simp[results,Tryz.results100,go_sem,qv,fv]) rfl ⟨_,rfl,row_heap HR.out (fun k hk=> ?_),below8 B1 _ (Nat.le_refl _) _ _ _ _ _ _ _ _⟩;have:=HK.out k hk;exact heap8 _ _ _ _ _ _ _ _ _ _ k (by omega)
theorem Find_yes (L:SLoc) (S:Sto) (n q:Int) (i:Nat) (a:SAct) (w:World) (h:StoreAt L S w) (hG:StoGood S) (hs:lGet S n q=some (i,a)):Calls Tryz.prog 25 #[.pointer (some ⟨L.sb,0,none⟩),.agg #[n,q]] w (ActOut a w):=by
 have hF:=fun W (hW:Below w.heap.size w W)=>find_of L S n q W (h.below hW) hG
 obtain⟨h1,h2,h3,hz1,hz2⟩:=lGet_some hs;clear hz1 hz2;have hil:=(List.getElem?_eq_some_iff.1 h2).1;obtain⟨x,hx⟩:∃x,L.ab[i]? =some x:=⟨_,List.getElem?_eq_getElem (by rw[h.len];exact hil)⟩
 have hap:aptr L (some i)=.pointer (some ⟨x.1,0,none⟩):=by simp[aptr,hx]
 rw[h1,hap] at hF;have hG2:=fun W (hW:Below w.heap.size w W)=>got_yes x.1 a x.2 W ((h.below hW).act i x a hx h2).1 ((h.below hW).act i x a hx h2).2 (hG.act a h3).len
 obtain⟨xb,xv⟩:=x;have HF:=qq hF;have HG:=qq hG2;unfold ActOut at HG⊢;obtain⟨n1,hn1⟩:∃n1,n1=a.regs.length:=⟨_,rfl⟩
 obtain⟨rs,hrs⟩:∃rs,rs=a.regs:=⟨_,rfl⟩
 rw[←hn1,←hrs] at HG⊢;obtain⟨an,aq,oc,dp,ex,pa,de,regs⟩:=a;dsimp only[actC] at*;clear hF h hG hs h2 h1 h3 hx hap hil hG2 hn1 hrs;go_enter Tryz.func25,Tryz.ntmps25;go_wp2_with fail
 (with_reducible refine(HF.out _ (by go_grown)).mono ?_)
 rintro e w1 ⟨rfl,hb1⟩;have B1:Below w.heap.size w w1:=below_then (by go_grown) hb1;have HV:=qq ((Blk.fresh (w.alloc (.cells #[n,q] 36)) #[.int .i64 0,.int .i64 0,.int .i64 0,.int .i64 0,.float .f64 0,.int .i64 0,.int .i64 0,.slice none 0 0] 51 (w.heap.size+1) (by simp)).below hb1);go_wp2_with fail
 (with_reducible refine(HG.out _ B1).mono ?_)
 rintro e w2 ⟨v',rfl,ho,hb2⟩;have B2:Below w.heap.size w w2:=below_then B1 hb2;have hlt1:=HV.out.lt;obtain⟨qv,fv⟩:=(HV.out.below hb2).out;have hlt2:=(HV.out.below hb2).lt;have hk:∀k,v'.ownBlock=some k→w1.heap.size≤k:=fun k e=>(ho.lt _ e).1
 have HR:=qq (row_base (B:=w.heap.size) ho B1.size);have HK:=qq hk;obtain⟨a',cap',rfl⟩:=row_slice ho;clear ho hk;go_wp2_with fail;refine bodyPost_ret (v:=.tuple #[.agg #[an,aq,oc,dp,.float .f64 ex,pa,de,.slice a' n1 cap'],.bool true]) (by simp[results,Tryz.results25,go_sem,qv,fv]) rfl ⟨_,rfl,row_heap HR.out (fun k hk=> ?_),below8 B2 _ (by omega) _ _ _ _ _ _ _ _⟩;have:=HK.out k hk
 exact heap8 _ _ _ _ _ _ _ _ _ _ k (by omega)
structure RLoc where
 sb:Nat
 av:Value
 pv:Value
 rv:List Value
def rblocks (rv:List Value):List Nat:=rv.flatMap fun v=>v.ownBlock.toList
def RLoc.foot (R:RLoc):List Nat:=R.sb::(R.av.ownBlock.toList ++(R.pv.ownBlock.toList ++rblocks R.rv))
def actsL (al:List SAct) (rv:List Value):List Value:=(al.zip rv).flatMap fun x=>actL x.1 x.2
structure RStoreAt (R:RLoc) (S:Sto) (w:World):Prop where
 blk:Blk w R.sb #[S.node,S.next,R.av,R.pv]
 acts:w.ownsRow 0 116 8 R.av S.acts.length (actsL S.acts R.rv)
 parts:w.ownsRow 0 166 7 R.pv S.parts.length (partsL S.parts)
 len:R.rv.length=S.acts.length
 regs:∀(i:Nat) (v:Value) (a:SAct),R.rv[i]? =some v→S.acts[i]? =some a→w.ownsRow 0 199 6 v a.regs.length (regsL a.regs)
 once:R.foot.Nodup
theorem mem_rblocks {rv:List Value} {k:Nat}:k∈rblocks rv↔∃(i:Nat) (v:Value),rv[i]? =some v∧v.ownBlock=some k:=by
 unfold rblocks;rw[List.mem_flatMap];constructor
 · rintro⟨v,hv,hk⟩;obtain⟨i,hi⟩:=List.getElem?_of_mem hv;exact⟨i,v,hi,by simpa using hk⟩
 · rintro⟨i,v,hi,hk⟩;exact⟨v,List.mem_of_getElem? hi,by simpa using hk⟩
theorem RLoc.mem {R:RLoc} {k:Nat}:k∈R.foot↔k=R.sb∨R.av.ownBlock=some k∨R.pv.ownBlock=some k∨k∈rblocks R.rv:=by
 unfold RLoc.foot;simp[List.mem_append]
theorem rfoot_nodup {R:RLoc}:R.foot.Nodup↔R.av.ownBlock≠some R.sb∧R.pv.ownBlock≠some R.sb∧R.sb∉rblocks R.rv∧(rblocks R.rv).Nodup∧(∀k,R.av.ownBlock=some k→R.pv.ownBlock≠some k∧k∉rblocks R.rv)∧(∀k,R.pv.ownBlock=some k→k∉rblocks R.rv):=by
 unfold RLoc.foot
 cases ha:R.av.ownBlock with
 | none=>
  cases hp:R.pv.ownBlock with
  | none=>simp[List.nodup_cons]
  | some q => simp [List.nodup_cons]; constructor
              · rintro⟨⟨h1,h2⟩,h3,h4⟩;exact⟨fun e=>h1 e.symm,h2,h4,h3⟩
              · rintro⟨h1,h2,h3,h4⟩;exact⟨⟨fun e=>h1 e.symm,h2⟩,h4,h3⟩
 | some p=>
  cases hp:R.pv.ownBlock with
  | none => simp [List.nodup_cons]; constructor
            · rintro⟨⟨h1,h2⟩,h3,h4⟩;exact⟨fun e=>h1 e.symm,h2,h4,h3⟩
            · rintro⟨h1,h2,h3,h4⟩;exact⟨⟨fun e=>h1 e.symm,h2⟩,h4,h3⟩
  | some q => simp [List.nodup_cons]; constructor
              · rintro⟨⟨h1,h2,h3⟩,⟨h4,h5⟩,h6,h7⟩;exact⟨fun e=>h1 e.symm,fun e=>h2 e.symm,h3,h7,⟨fun e=>h4 e.symm,h5⟩,h6⟩
              · rintro⟨h1,h2,h3,h4,⟨h5,h6⟩,h7⟩;exact⟨⟨fun e=>h1 e.symm,fun e=>h2 e.symm,h3⟩,⟨fun e=>h5 e.symm,h6⟩,h7,h4⟩
theorem RStoreAt.lt {R:RLoc} {S:Sto} {w:World} (h:RStoreAt R S w):∀k∈R.foot,k<w.heap.size:=by
 intro k hk;rcases RLoc.mem.1 hk with rfl | hk | hk | hk
 · exact h.blk.lt
 · exact(h.acts.lt k hk).2
 · exact(h.parts.lt k hk).2
 · obtain⟨i,v,hi,hk⟩:=mem_rblocks.1 hk;have hl:=(List.getElem?_eq_some_iff.1 hi).1;rw[h.len] at hl;exact((h.regs i v _ hi (List.getElem?_eq_getElem hl)).lt k hk).2
theorem RStoreAt.keep {R:RLoc} {S:Sto} {w w':World} (h:RStoreAt R S w) (hz:w.heap.size≤w'.heap.size) (he:∀k∈R.foot,w'.heap[k]? =w.heap[k]?):RStoreAt R S w':=
 ⟨h.blk.same hz (he _ (RLoc.mem.2 (.inl rfl))),row_heap h.acts (fun k hk=>he k (RLoc.mem.2 (.inr (.inl hk)))),row_heap h.parts (fun k hk=>he k (RLoc.mem.2 (.inr (.inr (.inl hk))))),h.len,fun i v a hv ha=>row_heap (h.regs i v a hv ha) (fun k hk=>he k (RLoc.mem.2 (.inr (.inr (.inr (mem_rblocks.2 ⟨i,v,hv,hk⟩)))))),h.once⟩
theorem RStoreAt.below {R:RLoc} {S:Sto} {w w':World} (h:RStoreAt R S w) (hb:Below w.heap.size w w'):RStoreAt R S w':=h.keep hb.size (fun k hk=>hb.block k (h.lt k hk))
def RGoes (R:RLoc) (S':Sto) (w w':World):Prop:=∃R',R'.sb=R.sb∧RStoreAt R' S' w'∧Goes R.foot R'.foot w w'
theorem RGoes.same {R:RLoc} {S:Sto} {w w':World} (h:RStoreAt R S w) (hb:Below w.heap.size w w'):RGoes R S w w':=⟨R,rfl,h.below hb,.of_below hb⟩
theorem RGoes.after {R:RLoc} {S:Sto} {w w1 w':World} (hb:Below w.heap.size w w1) (h:RGoes R S w1 w'):RGoes R S w w':=by
 obtain⟨R',h1,h2,h3⟩:=h;exact⟨R',h1,h2,.after hb h3⟩
theorem RGoes.then_below {R:RLoc} {S:Sto} {w w1 w':World} (h:RGoes R S w w1) (hb:Below w1.heap.size w1 w'):RGoes R S w w':=by
 obtain⟨R',h1,h2,h3⟩:=h;exact⟨R',h1,h2.below hb,h3.then_below hb⟩
theorem RStoreAt.ne_top {R:RLoc} {S:Sto} {w:World} (h:RStoreAt R S w):R.av.ownBlock≠some R.sb∧R.pv.ownBlock≠some R.sb∧(∀k,R.av.ownBlock=some k→R.pv.ownBlock≠some k):=by
 obtain⟨h1,h2,_,_,h5,_⟩:=rfoot_nodup.1 h.once;exact⟨h1,h2,fun k hk=>(h5 k hk).1⟩
theorem RStoreAt.ne_regs {R:RLoc} {S:Sto} {w:World} (h:RStoreAt R S w) {i:Nat} {v:Value} (hv:R.rv[i]? =some v):∀k,v.ownBlock=some k→k≠R.sb∧R.av.ownBlock≠some k∧R.pv.ownBlock≠some k:=by
 obtain⟨h1,h2,h3,_,h5,h6⟩:=rfoot_nodup.1 h.once;intro k hk;have hm:k∈rblocks R.rv:=mem_rblocks.2 ⟨i,v,hv,hk⟩;exact⟨fun e=>h3 (e▸hm),fun e=>(h5 k e).2 hm,fun e=>h6 k e hm⟩
theorem rblocks_cons (v:Value) (t:List Value):rblocks (v::t)=v.ownBlock.toList ++rblocks t:=rfl
theorem rblocks_ne {rv:List Value} (hn:(rblocks rv).Nodup):∀{i j:Nat} {u v:Value},rv[i]? =some u→rv[j]? =some v→i≠j→∀k,u.ownBlock=some k→v.ownBlock≠some k:=by
 induction rv with
 | nil=>intro i j u v h;simp at h
 | cons x t ih=>
  intro i j u v hu hv hij k hk hk2;rw[rblocks_cons,List.nodup_append] at hn;obtain⟨_,h2,h3⟩:=hn
  match i,j with
  | 0,0=>exact hij rfl
  | 0,j+1=>
   simp at hu hv;subst hu;exact h3 k (by simp[hk]) k (mem_rblocks.2 ⟨j,v,hv,hk2⟩) rfl
  | i+1,0=>
   simp at hu hv;subst hv;exact h3 k (by simp[hk2]) k (mem_rblocks.2 ⟨i,u,hu,hk⟩) rfl
  | i+1,j+1=>exact ih h2 (by simpa using hu) (by simpa using hv) (by omega) k hk hk2
theorem RStoreAt.ne_two {R:RLoc} {S:Sto} {w:World} (h:RStoreAt R S w) {i j:Nat} {u v:Value} (hu:R.rv[i]? =some u) (hv:R.rv[j]? =some v) (hij:i≠j):∀k,u.ownBlock=some k→v.ownBlock≠some k:=rblocks_ne (rfoot_nodup.1 h.once).2.2.2.1 hu hv hij
def ActC (w:World) (b o:Nat) (a:SAct) (v:Value):Prop:=w.cell? ⟨b,o,none⟩=some (.int .i64 a.an)∧w.cell? ⟨b,o+1,none⟩=some (.int .i64 a.aq)∧w.cell? ⟨b,o+2,none⟩=some (.int .i64 a.oc)∧w.cell? ⟨b,o+3,none⟩=some (.int .i64 a.dp)∧w.cell? ⟨b,o+4,none⟩=some (.float .f64 a.ex)∧w.cell? ⟨b,o+5,none⟩=some (.int .i64 a.pa)∧w.cell? ⟨b,o+6,none⟩=some (.int .i64 a.de)∧w.cell? ⟨b,o+7,none⟩=some v
theorem ActC.below {w w':World} {b o:Nat} {a:SAct} {v:Value} (h:ActC w b o a v) (hb:Below w.heap.size w w') (hl:b<w.heap.size):ActC w' b o a v:=
 ⟨(hb.cell (p:=⟨b,o,none⟩) hl).trans h.1,(hb.cell (p:=⟨b,o+1,none⟩) hl).trans h.2.1,(hb.cell (p:=⟨b,o+2,none⟩) hl).trans h.2.2.1,(hb.cell (p:=⟨b,o+3,none⟩) hl).trans h.2.2.2.1,(hb.cell (p:=⟨b,o+4,none⟩) hl).trans h.2.2.2.2.1,(hb.cell (p:=⟨b,o+5,none⟩) hl).trans h.2.2.2.2.2.1,(hb.cell (p:=⟨b,o+6,none⟩) hl).trans h.2.2.2.2.2.2.1,(hb.cell (p:=⟨b,o+7,none⟩) hl).trans h.2.2.2.2.2.2.2⟩
theorem actL_len (x:SAct×Value):(actL x.1 x.2).length=8:=rfl
theorem act_row {w : World} {B : Nat} {T : TypeId} {v : Value} {n : Nat} {al : List SAct} {rv : List Value} (hl : rv.length = al.length) (h : w.ownsRow B T 8 v n (actsL al rv)) :
    ∃a cap,v=.slice a n cap∧al.length=n∧(0<n→∃g,a=some ⟨g,0,none⟩∧g<w.heap.size∧(∀i,w.frozen? ⟨g,i,none⟩=false)∧∀(j:Nat) (x:SAct) (u:Value),al[j]? =some x→rv[j]? =some u→ActC w g (j*8) x u):=by
 have hzl:(al.zip rv).length=al.length:=by rw[List.length_zip,hl,Nat.min_self]
 have hn:al.length=n:=by have:=h.1;unfold actsL at this;rw[flat_length _ 8 actL_len,hzl] at this;omega
 obtain⟨a,cap,rfl⟩:=row_slice h;refine⟨a,cap,rfl,hn,fun h0=> ?_⟩;obtain⟨g,cap',he,_,_,hg,hc,hf⟩:=row_form h h0;obtain⟨rfl,_⟩:a=some ⟨g,0,none⟩∧cap=cap':=by simpa using he
 refine⟨g,rfl,hg,hf,fun j x u hx hu=> ?_⟩;obtain⟨hj,rfl⟩:=List.getElem?_eq_some_iff.1 hx;obtain⟨hj2,rfl⟩:=List.getElem?_eq_some_iff.1 hu;have hat:=fun k hk=>flat_at (fun x:SAct×Value=>actL x.1 x.2) 8 actL_len (al.zip rv) j k (by omega) hk
 simp only[List.getElem_zip] at hat;refine⟨hc _ _ ?_,hc _ _ ?_,hc _ _ ?_,hc _ _ ?_,hc _ _ ?_,hc _ _ ?_,hc _ _ ?_,hc _ _ ?_⟩
 · exact hat 0 (by decide)
 · exact hat 1 (by decide)
 · exact hat 2 (by decide)
 · exact hat 3 (by decide)
 · exact hat 4 (by decide)
 · exact hat 5 (by decide)
 · exact hat 6 (by decide)
 · exact hat 7 (by decide)
open Go.RowKit Go.Shelf
def sameF (p f:SFact):Bool:=decide (fplain p.ex=fplain f.ex) && (p.k==f.k && (p.an==f.an && (p.aq==f.aq && (p.rg==f.rg && (p.nd==f.nd && (p.pt==f.pt && (p.pr==f.pr && (p.oc==f.oc && (p.dp==f.dp && (p.pa==f.pa && (p.st==f.st && (p.hw==f.hw && (p.de==f.de)))))))))))))
theorem factRight_go (f p : SFact) (bk : Bool) (hx : F64 f.ex) (hp : F64 p.ex) (ea : Int → Addr) (w : World) (h : EnvS ea w) (hP : ∀ W, EnvS ea W → Calls Tryz.prog 187 #[factV f] W (Makes (.tuple #[factV p, .bool bk]) W)) :
    Calls Tryz.prog 83 #[factV f] w (Makes (.bool (bk && sameF p f && (forder p.ex f.ex==0))) w):=by
 have hS:∀W,Calls Tryz.prog 188 #[factV p,factV f] W (Makes (.bool (sameF p f)) W):=fun W=>factsSame_of _ _ _ _ _ _ _ _ _ _ _ _ _ _ _ _ _ _ _ _ _ _ _ _ _ _ p.ex f.ex hp hx W
 have hO:=fun W=>forder_of p.ex f.ex hp hx W
 generalize sameF p f=bs at*;generalize forder p.ex f.ex=o at*;obtain⟨k,an,aq,rg,nd,pt,pr,oc,dp,pa,st,hw,de,ex⟩:=f;obtain⟨k',an',aq',rg',nd',pt',pr',oc',dp',pa',st',hw',de',ex'⟩:=p;dsimp only[factV,factC] at*;have HK:=qq (Blk.fresh w #[k,an,aq,rg,nd,pt,pr,oc,dp,pa,st,hw,de,.float .f64 ex] 39 _ rfl)
 have HB:=qq ((Below.refl w.heap.size w).alloc (Nat.le_refl _) (.cells #[k,an,aq,rg,nd,pt,pr,oc,dp,pa,st,hw,de,.float .f64 ex] 39));have HP:=qq (hP _ (h.below HB.out));have HS:=qq hS;have HO:=qq hO;clear h hP hS hO hx hp;go_enter Tryz.func83,Tryz.ntmps83;go_wp2_with fail;refine HP.out.mono ?_;rintro e w1 ⟨rfl,hb1⟩;have HB1:=qq (below_then HB.out hb1);have HK1:=qq (HK.out.below hb1)
 have HK2:=qq (HK1.out.alloc (.cells #[k',an',aq',rg',nd',pt',pr',oc',dp',pa',st',hw',de',.float .f64 ex'] 39));have HC2:=qq (Blk.fresh w1 #[k',an',aq',rg',nd',pt',pr',oc',dp',pa',st',hw',de',.float .f64 ex'] 39 _ rfl);have HB2:=qq (HB1.out.alloc HB1.out.size (.cells #[k',an',aq',rg',nd',pt',pr',oc',dp',pa',st',hw',de',.float .f64 ex'] 39));clear hb1
 cases bk with
 | false=>
  go_wp2_with fail;go_ret;exact⟨ret_bool (by simp),HB2.out⟩
 | true=>
  obtain⟨q,f⟩:=HK2.out.out;obtain⟨q1,f1⟩:=HC2.out.out;go_wp2_with fail;refine(HS.out _).mono ?_;rintro e w2 ⟨rfl,hb2⟩;have HB3:=qq (below_then HB2.out hb2);clear q f q1 f1;obtain⟨q,f⟩:=(HK2.out.below hb2).out;obtain⟨q1,f1⟩:=(HC2.out.below hb2).out;clear hb2
  cases bs with
  | false=>
   go_wp2_with fail;go_ret;exact⟨ret_bool (by simp),HB3.out⟩
  | true=>
   go_wp2_with fail;refine(HO.out _).mono ?_;rintro e w3 ⟨rfl,rfl⟩;go_wp2_with fail;go_ret;exact⟨ret_bool (by simp),HB3.out⟩
theorem forder_zero (x:Nat):(forder 0 x==0)=decide (x=0):=by
 have h0:fplace 0=0:=by decide+kernel
 unfold forder;rw[h0];unfold fplace;by_cases hn:fnan x=true
 · rw[if_pos hn];have hx:x≠0:=by rintro rfl;revert hn;decide+kernel
   simp[hx]
 · rw[if_neg hn];by_cases hl:x<9223372036854775808
   · rw[if_pos hl];by_cases hx:x=0
     · subst hx;simp
     · have:¬((x:Int)<0):=by omega
       have h2:(0:Int)<(x:Int):=by omega
       rw[if_pos h2];simp[hx]
   · rw[if_neg hl];have hx:x≠0:=by omega
     have h1:¬((0:Int)< -1 - ((x:Int) - 9223372036854775808)):=by omega
     have h2: -1 - ((x:Int) - 9223372036854775808)<0:=by omega
     rw[if_neg h1,if_pos h2];simp[hx]
theorem forder_refl (x:Nat):(forder x x==0)=true:=by simp[forder]
theorem fpl_same (f:SFact):(fpk f && sameF (fpl f) f && (forder (fpl f).ex f.ex==0))=fok f:=by
 obtain⟨k,an,aq,rg,nd,pt,pr,oc,dp,pa,st,hw,de,ex⟩:=f;by_cases h1:k=1
 · subst h1;simp only[fpk,fpl,sameF,fok,if_true,forder_refl,Bool.and_true];rw[Bool.eq_iff_iff];simp;omega
 have hz:=forder_zero ex;by_cases h2:k=2
 · subst h2;by_cases hex:ex=0
   · subst hex;simp only[fpk,fpl,sameF,fok,if_true,forder_refl,Bool.and_true,show ¬((2:Int)=1) by decide,if_false];generalize idOk an aq=b1;generalize stOk st hw=b2;rw[Bool.eq_iff_iff]
     cases b1<;>cases b2<;>simp<;>omega
   · have hd:decide (ex=0)=false:=decide_eq_false hex;rw[hd] at hz;simp only[fpk,fpl,sameF,fok,if_true,Bool.and_true,show ¬((2:Int)=1) by decide,if_false,hz,Bool.and_false];simp[hex]
 by_cases h3:k=3
 · subst h3;by_cases hex:ex=0
   · subst hex;simp only[fpk,fpl,sameF,fok,if_true,forder_refl,Bool.and_true,show ¬((3:Int)=1) by decide,if_false,show ¬((3:Int)=2) by decide];generalize idOk an aq=b1;generalize stOk st hw=b2;rw[Bool.eq_iff_iff]
     cases b1<;>cases b2<;>simp<;>omega
   · have hd:decide (ex=0)=false:=decide_eq_false hex;rw[hd] at hz;simp only[fpk,fpl,sameF,fok,if_true,Bool.and_true,show ¬((3:Int)=1) by decide,if_false,show ¬((3:Int)=2) by decide,hz,Bool.and_false];simp[hex]
 by_cases h4:k=4
 · subst h4;by_cases hex:ex=0
   · subst hex;simp only[fpk,fpl,sameF,fok,if_true,forder_refl,Bool.and_true,show ¬((4:Int)=1) by decide,if_false,show ¬((4:Int)=2) by decide,show ¬((4:Int)=3) by decide];generalize idOk an aq=b1;generalize stOk st hw=b2;rw[Bool.eq_iff_iff]
     cases b1<;>cases b2<;>simp<;>omega
   · have hd:decide (ex=0)=false:=decide_eq_false hex;rw[hd] at hz;simp only[fpk,fpl,sameF,fok,if_true,Bool.and_true,show ¬((4:Int)=1) by decide,if_false,show ¬((4:Int)=2) by decide,show ¬((4:Int)=3) by decide,hz,Bool.and_false];simp[hex]
 by_cases h5:k=5
 · subst h5;by_cases hex:ex=0
   · subst hex;simp only[fpk,fpl,sameF,fok,if_true,forder_refl,Bool.and_true,show ¬((5:Int)=1) by decide,if_false,show ¬((5:Int)=2) by decide,show ¬((5:Int)=3) by decide,show ¬((5:Int)=4) by decide];generalize idOk an aq=b1;generalize stOk st hw=b2;rw[Bool.eq_iff_iff]
     cases b1<;>cases b2<;>simp<;>omega
   · have hd:decide (ex=0)=false:=decide_eq_false hex;rw[hd] at hz;simp only[fpk,fpl,sameF,fok,if_true,Bool.and_true,show ¬((5:Int)=1) by decide,if_false,show ¬((5:Int)=2) by decide,show ¬((5:Int)=3) by decide,show ¬((5:Int)=4) by decide,hz,Bool.and_false];simp[hex]
 by_cases h6:k=6
 · subst h6;by_cases hex:ex=0
   · subst hex;simp only[fpk,fpl,sameF,fok,if_true,forder_refl,Bool.and_true,show ¬((6:Int)=1) by decide,if_false,show ¬((6:Int)=2) by decide,show ¬((6:Int)=3) by decide,show ¬((6:Int)=4) by decide,show ¬((6:Int)=5) by decide];generalize idOk an aq=b1;generalize stOk st hw=b2;rw[Bool.eq_iff_iff]
     cases b1<;>cases b2<;>simp<;>omega
   · have hd:decide (ex=0)=false:=decide_eq_false hex;rw[hd] at hz;simp only[fpk,fpl,sameF,fok,if_true,Bool.and_true,show ¬((6:Int)=1) by decide,if_false,show ¬((6:Int)=2) by decide,show ¬((6:Int)=3) by decide,show ¬((6:Int)=4) by decide,show ¬((6:Int)=5) by decide,hz,Bool.and_false];simp[hex]
 by_cases h7:k=7
 · subst h7;by_cases hex:ex=0
   · subst hex;simp only[fpk,fpl,sameF,fok,if_true,forder_refl,Bool.and_true,show ¬((7:Int)=1) by decide,if_false,show ¬((7:Int)=2) by decide,show ¬((7:Int)=3) by decide,show ¬((7:Int)=4) by decide,show ¬((7:Int)=5) by decide,show ¬((7:Int)=6) by decide];generalize idOk an aq=b1;generalize stOk st hw=b2;rw[Bool.eq_iff_iff]
     cases b1<;>cases b2<;>simp<;>omega
   · have hd:decide (ex=0)=false:=decide_eq_false hex;rw[hd] at hz;simp only[fpk,fpl,sameF,fok,if_true,Bool.and_true,show ¬((7:Int)=1) by decide,if_false,show ¬((7:Int)=2) by decide,show ¬((7:Int)=3) by decide,show ¬((7:Int)=4) by decide,show ¬((7:Int)=5) by decide,show ¬((7:Int)=6) by decide,hz,Bool.and_false];simp[hex]
 by_cases h8:k=8
 · subst h8;by_cases hex:ex=0
   · subst hex;simp only[fpk,fpl,sameF,fok,if_true,forder_refl,Bool.and_true,show ¬((8:Int)=1) by decide,if_false,show ¬((8:Int)=2) by decide,show ¬((8:Int)=3) by decide,show ¬((8:Int)=4) by decide,show ¬((8:Int)=5) by decide,show ¬((8:Int)=6) by decide,show ¬((8:Int)=7) by decide];generalize idOk an aq=b1;generalize stOk st hw=b2;rw[Bool.eq_iff_iff]
     cases b1<;>cases b2<;>simp<;>omega
   · have hd:decide (ex=0)=false:=decide_eq_false hex;rw[hd] at hz;simp only[fpk,fpl,sameF,fok,if_true,Bool.and_true,show ¬((8:Int)=1) by decide,if_false,show ¬((8:Int)=2) by decide,show ¬((8:Int)=3) by decide,show ¬((8:Int)=4) by decide,show ¬((8:Int)=5) by decide,show ¬((8:Int)=6) by decide,show ¬((8:Int)=7) by decide,hz,Bool.and_false];simp[hex]
 by_cases hex:ex=0
 all_goals simp[fpk,fok,h1,h2,h3,h4,h5,h6,h7,h8]
theorem factRight_of (f:SFact) (hx:F64 f.ex) (ea:Int→Addr) (w:World) (h:EnvS ea w):Calls Tryz.prog 83 #[factV f] w (Makes (.bool (fok f)) w):=by
 have hp:F64 (fpl f).ex:=by
  unfold fpl
  repeat' split
  all_goals first | exact hx | exact f64_zero
 rw[←fpl_same f];exact factRight_go f (fpl f) (fpk f) hx hp ea w h (fun W hW=>plainF_of f hx ea W hW)
end Go.Proofs.YtlkajejbfojkeaaGreatDoor
