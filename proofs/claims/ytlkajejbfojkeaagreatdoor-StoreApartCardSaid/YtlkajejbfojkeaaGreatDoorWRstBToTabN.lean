/- RstB, RstC, RstU, RfcC, Sort, TabM, TabN -/
import Derived.Test.YtlkajejbfojkeaaGreatDoorWRfcBToJoA
set_option linter.unusedSimpArgs false
set_option linter.unusedVariables false
set_option maxRecDepth 100000
set_option maxHeartbeats 16000000
namespace Go.Proofs.YtlkajejbfojkeaaGreatDoor
open Go.RowKit
attribute [local go_sem] store_float
theorem row_slice3 {w:World} {B:Nat} {e:TypeId} {size:Nat} {v:Value} {n:Nat} {xs:List Value} (h:w.ownsRow B e size v n xs):∃a m c,v=.slice a m c:=by
 obtain⟨a,cap,h⟩:=row_slice h;exact⟨a,n,cap,h⟩
theorem rfind_of (R:RLoc) (S:Sto) (n q:Int) (w:World) (h:RStoreAt R S w) (hl:S.acts.length≤8):Calls Tryz.prog 52 #[.pointer (some ⟨R.sb,0,none⟩),.agg #[n,q]] w (Makes (.int .i64 (oix (sfind S n q))) w):=by
 obtain⟨a,cap,hv,hn,hr⟩:=act_row h.len h.acts;have c2:w.cell? ⟨R.sb,2,none⟩=some (.slice a S.acts.length cap):=by rw[←hv];exact h.blk.cell 2
 have hsb:=h.blk.lt;have HR:=qq hr;have HLEN:=qq h.len;have USL:=qq (fun(i:Nat) (v:Value) (hv:R.rv[i]? =some v)=>row_slice3 (h.regs i v _ hv (List.getElem?_eq_getElem (by rw[←h.len];exact(List.getElem?_eq_some_iff.1 hv).1))));have hf:sfind S n q=S.acts.findIdx? (fun a=>decide (a.an=n∧a.aq=q)):=rfl;rw[hf];generalize S.acts=l at*;generalize R.rv=rv at*;obtain⟨m,hm⟩:∃m,m=l.length:=⟨_,rfl⟩
 rw[←hm] at c2 hl HR HLEN;have HM:=qq hm;have HB:=qq (Blk.fresh w #[n,q] 36 _ rfl);clear hm hr hn hv h hf;go_enter Tryz.func52,Tryz.ntmps52;go_wp2_with fail;go_loopw [12] (fun i wr=>∃k:Nat,k≤m∧i=.int .i64 (k:Nat)∧Hid (∀(j:Nat) (h:j<l.length),j<k→decide (l[j].an=n∧l[j].aq=q)=false)∧Hid (Blk wr w.heap.size #[n,q])∧Below w.heap.size w wr) (fun i _=>m - (intOf i).toNat)
 case atStart=>exact⟨0,by omega,by first | rfl | go_num,qq (fun j _ h=>absurd h (by omega)),HB,by go_grown⟩
 case round=>
  obtain⟨k,hk,rfl,HBE,HBr,hB⟩:=hrel;by_cases hlt:k<m
  · have hks:k<l.length:=by rw[←HM.out];exact hlt
    obtain⟨g,rfl,hg,hfz,hcell⟩:=HR.out (by omega);obtain⟨u,hu⟩:∃u,rv[k]? =some u:=⟨_,List.getElem?_eq_getElem (by rw[HLEN.out];exact hlt)⟩
    obtain⟨x,hx⟩:∃x,x=l[k]:=⟨_,rfl⟩
    have hat:=(hcell k x u (by rw[hx];exact List.getElem?_eq_getElem hks) hu).below hB hg;obtain⟨a0,a1,a2,a3,a4,a5,a6,a7⟩:=hat;have hki:(k:Int)<(m:Int):=by omega
    have hk0:(0:Int)≤(k:Int):=by omega
    have hse:=fun W=>actEq x.an x.aq n q W
    obtain⟨t,ht⟩:∃t,t=decide (x.an=n∧x.aq=q):=⟨_,rfl⟩
    rw[←ht] at hse;rw[hx] at ht;have HT:=qq ht;obtain⟨b,bf⟩:=HBr.out.out;have hzr:=HBr.out.lt;have HB2:=qq (HBr.out.alloc (.cells #[x.an,x.aq,x.oc,x.dp,.float .f64 x.ex,x.pa,x.de,u] 116));have hB2:Below w.heap.size w (wr.alloc (.cells #[x.an,x.aq,x.oc,x.dp,.float .f64 x.ex,x.pa,x.de,u] 116)):=hB.alloc hB.size _;obtain⟨ua,un,uc,hus⟩:∃ua un uc,u=.slice ua un uc:=USL.out k u hu;subst hus
    clear ht hcell hfz hx hu;obtain⟨xan,xaq,xoc,xdp,xex,xpa,xde,xrg⟩:=x;dsimp only at a0 a1 a2 a3 a4 a5 a6 a7 hse HB2 hB2
    cases t with
    | true=>
     go_wp2_with fail;go_ret;exact⟨by rw[find_hit (q:=fun a:SAct=>decide (a.an=n∧a.aq=q)) hks HBE.out HT.out.symm];rfl,hB2⟩
    | false=>
     go_wp2_with fail;go_roundw
     case rel => exact ⟨k + 1, by omega, by go_num, qq (fun j h hj => by
         rcases Nat.lt_or_eq_of_le (Nat.le_of_lt_succ hj) with h1 | h1
         · exact HBE.out j h h1
         · subst h1;exact HT.out.symm),HB2,hB2⟩
     case measure=>(simp[intOf];omega)
  · obtain rfl:k=m:=by omega
    go_wp2_with fail;go_ret;exact⟨by rw[find_miss (q:=fun a:SAct=>decide (a.an=n∧a.aq=q)) (fun j h=>HBE.out j h (by rw[HM.out];exact h))];rfl,hB⟩
theorem rchild_of (R:RLoc) (S:Sto) (pt:Int) (w:World) (h:RStoreAt R S w) (hl:S.acts.length≤8) (hp0:0≤pt) (hp1:pt≤100):Calls Tryz.prog 91 #[.pointer (some ⟨R.sb,0,none⟩),.int .i64 pt] w (Makes (.int .i64 (oix (schild S (pt+1)))) w):=by
 obtain⟨a,cap,hv,hn,hr⟩:=act_row h.len h.acts;have c2:w.cell? ⟨R.sb,2,none⟩=some (.slice a S.acts.length cap):=by rw[←hv];exact h.blk.cell 2
 have hsb:=h.blk.lt;have HR:=qq hr;have HLEN:=qq h.len;have USL:=qq (fun(i:Nat) (v:Value) (hv:R.rv[i]? =some v)=>row_slice3 (h.regs i v _ hv (List.getElem?_eq_getElem (by rw[←h.len];exact(List.getElem?_eq_some_iff.1 hv).1))));have hf:schild S (pt+1)=S.acts.findIdx? (fun a=>decide (a.pa=pt+1)):=rfl;rw[hf];generalize S.acts=l at*;generalize R.rv=rv at*;obtain⟨m,hm⟩:∃m,m=l.length:=⟨_,rfl⟩
 rw[←hm] at c2 hl HR HLEN;have HM:=qq hm;clear hm hr hn hv h hf;go_enter Tryz.func91,Tryz.ntmps91;go_wp2_with fail;go_loopw [12] (fun i wr=>∃k:Nat,k≤m∧i=.int .i64 (k:Nat)∧Hid (∀(j:Nat) (h:j<l.length),j<k→decide (l[j].pa=pt+1)=false)∧Below w.heap.size w wr) (fun i _=>m - (intOf i).toNat)
 case atStart=>exact⟨0,by omega,by first | rfl | go_num,qq (fun j _ h=>absurd h (by omega)),by go_grown⟩
 case round=>
  obtain⟨k,hk,rfl,HBE,hB⟩:=hrel;by_cases hlt:k<m
  · have hks:k<l.length:=by rw[←HM.out];exact hlt
    obtain⟨g,rfl,hg,hfz,hcell⟩:=HR.out (by omega);obtain⟨u,hu⟩:∃u,rv[k]? =some u:=⟨_,List.getElem?_eq_getElem (by rw[HLEN.out];exact hlt)⟩
    obtain⟨x,hx⟩:∃x,x=l[k]:=⟨_,rfl⟩
    have hat:=(hcell k x u (by rw[hx];exact List.getElem?_eq_getElem hks) hu).below hB hg;obtain⟨a0,a1,a2,a3,a4,a5,a6,a7⟩:=hat;have hki:(k:Int)<(m:Int):=by omega
    have hk0:(0:Int)≤(k:Int):=by omega
    obtain⟨t,ht⟩:∃t,t=decide (x.pa=pt+1):=⟨_,rfl⟩
    have hse:(x.pa==pt+1)=t:=by rw[ht];by_cases h:x.pa=pt+1<;>simp[h]
    rw[hx] at ht;have HT:=qq ht;have hB2:Below w.heap.size w (wr.alloc (.cells #[x.an,x.aq,x.oc,x.dp,.float .f64 x.ex,x.pa,x.de,u] 116)):=hB.alloc hB.size _;obtain⟨ua,un,uc,hus⟩:∃ua un uc,u=.slice ua un uc:=USL.out k u hu;subst hus;clear ht hcell hfz hx hu;obtain⟨xan,xaq,xoc,xdp,xex,xpa,xde,xrg⟩:=x;dsimp only at a0 a1 a2 a3 a4 a5 a6 a7 hse hB2
    cases t with
    | true=>
     go_wp2_with fail;go_ret;exact⟨by rw[find_hit (q:=fun a:SAct=>decide (a.pa=pt+1)) hks HBE.out HT.out.symm];rfl,hB2⟩
    | false=>
     go_wp2_with fail;go_roundw
     case rel => exact ⟨k + 1, by omega, by go_num, qq (fun j h hj => by
         rcases Nat.lt_or_eq_of_le (Nat.le_of_lt_succ hj) with h1 | h1
         · exact HBE.out j h h1
         · subst h1;exact HT.out.symm),hB2⟩
     case measure=>(simp[intOf];omega)
  · obtain rfl:k=m:=by omega
    go_wp2_with fail;go_ret;exact⟨by rw[find_miss (q:=fun a:SAct=>decide (a.pa=pt+1)) (fun j h=>HBE.out j h (by rw[HM.out];exact h))];rfl,hB⟩
def turnOk (x:MSeat) (s h:Int):Bool:=decide (x.s≠14) && mRight ⟨x.p,x.d,s,h⟩
theorem turnOk_some {x t:MSeat} {s h:Int} (ht:sturn x s h=some t):turnOk x s h=true∧t=⟨x.p,x.d,s,h⟩:=by
 obtain⟨h1,h2,h3⟩:=sturn_some ht;refine⟨?_,h2⟩;unfold turnOk;rw[←h2,h3];simp[h1]
theorem turnOk_none {x:MSeat} {s h:Int} (ht:sturn x s h=none):turnOk x s h=false:=by
 unfold sturn at ht;unfold turnOk;split at ht
 · rename_i hn
   rcases hn with hn | hn
   · simp[hn]
   · simp[hn]
 · cases ht
theorem rturned_of (x:MSeat) (f:SFact) (w:World):Calls Tryz.prog 92 #[.agg #[x.p,x.d,x.s,x.h],factV f] w (Makes (.tuple #[.agg #[x.p,x.d,f.st,f.hw],.bool (turnOk x f.st f.hw)]) w):=by
 have hR:=fun W=>gright_of ⟨x.p,x.d,f.st,f.hw⟩ W
 unfold turnOk;generalize mRight ⟨x.p,x.d,f.st,f.hw⟩=mr at*;dsimp only[seatV] at hR;obtain⟨k,an,aq,rg,nd,pt,pr,oc,dp,pa,st,hw,de,ex⟩:=f;obtain⟨p,d,s,hh⟩:=x;dsimp only[factV,factC] at*;have HR:=qq hR;clear hR
 have K0:=qq ((((Blk.fresh w #[p,d,s,hh] 164 _ rfl).alloc (.cells #[k,an,aq,rg,nd,pt,pr,oc,dp,pa,st,hw,de,.float .f64 ex] 42)).alloc (.cells #[.int .i64 0,.int .i64 0,.int .i64 0,.int .i64 0] 164)).alloc (.cells #[p,d,st,hw] 164))
 have K3:=qq (Blk.fresh (((w.alloc (.cells #[p,d,s,hh] 164)).alloc (.cells #[k,an,aq,rg,nd,pt,pr,oc,dp,pa,st,hw,de,.float .f64 ex] 42)).alloc (.cells #[.int .i64 0,.int .i64 0,.int .i64 0,.int .i64 0] 164)) #[.int .i64 p,.int .i64 d,.int .i64 st,.int .i64 hw] 164 (w.heap.size+1+1+1) (by simp))
 have K2:=qq ((Blk.fresh ((w.alloc (.cells #[p,d,s,hh] 164)).alloc (.cells #[k,an,aq,rg,nd,pt,pr,oc,dp,pa,st,hw,de,.float .f64 ex] 42)) #[.int .i64 0,.int .i64 0,.int .i64 0,.int .i64 0] 164 (w.heap.size+1+1) (by simp)).alloc (.cells #[p,d,st,hw] 164));by_cases h14:s=14
 · subst h14;go_enter Tryz.func92,Tryz.ntmps92;go_wp2_with fail;go_region
   all_goals go_wp2_with fail
   all_goals exact bodyPost_ret (v:=.tuple #[.agg #[p,d,st,hw],.bool false]) (by simp[results,Tryz.results92,go_sem]) rfl ⟨rfl,by go_grown⟩
 · have t14:(s !=14)=true:=by simpa using h14
   rw[show decide (s≠14)=true by simpa using h14,Bool.true_and];clear h14;go_enter Tryz.func92,Tryz.ntmps92;go_wp2_with fail
   go_region_with (go_at_call 201;refine(HR.out _).mono ?_;rintro e w1 ⟨rfl,hb1⟩;have B1:Below w.heap.size w w1:=below_then (by go_grown) hb1;have hz1:=hb1.size;simp only[World.size_alloc,World.size_drew] at hz1;have L2:=qq ((K2.out.below (by go_grown)).below hb1);have L3:=qq ((K3.out.below (by go_grown)).below hb1);have L0:=qq ((K0.out.below (by go_grown)).below hb1);obtain⟨q2,f2⟩:=L2.out.out;obtain⟨q3,f3⟩:=L3.out.out;obtain⟨q0,f0⟩:=L0.out.out)
   all_goals go_wp2_with fail
   all_goals (refine bodyPost_ret (v:=.tuple #[.agg #[p,d,st,hw],.bool mr]) (by simp[results,Tryz.results92,go_sem,q2,f2]) rfl ⟨rfl,?_⟩)
   all_goals exact(((B1.setCell (p:=⟨w.heap.size+1+1,0,none⟩) (by simp;omega) _).setCell (p:=⟨w.heap.size+1+1,1,none⟩) (by simp;omega) _).setCell (p:=⟨w.heap.size+1+1,2,none⟩) (by simp;omega) _).setCell (p:=⟨w.heap.size+1+1,3,none⟩) (by simp;omega) _
theorem zip_set {α β:Type}:∀(l:List α) (r:List β) (i:Nat) (a:α) (b:β),(l.set i a).zip (r.set i b)=(l.zip r).set i (a,b)
 | [],r,i,a,b=>by simp
 | x::t,[],i,a,b=>by simp
 | x::t,y::u,0,a,b=>rfl
 | x::t,y::u,i+1,a,b=>by simp only[List.set_cons_succ,List.zip_cons_cons];rw[zip_set t u i a b]
theorem zip_len {l:List SAct} {r:List Value} (h:r.length=l.length):(l.zip r).length=l.length:=by rw[List.length_zip,h,Nat.min_self]
theorem act_set {w : World} {B : Nat} {T : TypeId} {g cap n : Nat} {al : List SAct} {rv : List Value} (hl : rv.length = al.length) (h : w.ownsRow B T 8 (.slice (some ⟨g, 0, none⟩) n cap) n (actsL al rv)) (i c : Nat) (hc : c < 8) (a a' : SAct) (v v' : Value) (ha : al[i]? = some a) (hv : rv[i]? = some v) (x : Value) (hx : actL a' v' = (actL a v).set c x) :
    (w.setCell ⟨g,i*8+c,none⟩ x).ownsRow B T 8 (.slice (some ⟨g,0,none⟩) n cap) n (actsL (al.set i a') (rv.set i v')):=by
 have hi:=(List.getElem?_eq_some_iff.1 ha).1;have hn:al.length=n:=by have:=h.1;unfold actsL at this;rw[flat_length _ 8 actL_len,zip_len hl] at this;omega
 have h2:=row_set h (i*8+c) x (by omega);unfold actsL at h2⊢;rw[zip_set,←flat_set (fun x:SAct×Value=>actL x.1 x.2) 8 actL_len (al.zip rv) i c (by rw[zip_len hl];exact hi) hc x (a',v') (by
   have h3:=(List.getElem?_eq_some_iff.1 ha).2;have h4:=(List.getElem?_eq_some_iff.1 hv).2;simp only[List.getElem_zip,h3,h4];exact hx)]
 exact h2
theorem RStoreAt.parts_in {R:RLoc} {S:Sto} {w w':World} (h:RStoreAt R S w) (ps:List SPart) (hz:w.heap.size≤w'.heap.size) (he:∀k,R.pv.ownBlock≠some k→k<w.heap.size→w'.heap[k]? =w.heap[k]?) (hrow:w'.ownsRow 0 166 7 R.pv ps.length (partsL ps)):RStoreAt R {S with parts:=ps} w':=by
 have hn:=h.ne_top;exact⟨h.blk.same hz (he _ hn.2.1 h.blk.lt),row_heap h.acts (fun k hk=>he k (hn.2.2 k hk) (h.acts.lt k hk).2),hrow,h.len,fun i v a hv ha=>row_heap (h.regs i v a hv ha) (fun k hk=>he k (h.ne_regs hv k hk).2.2 ((h.regs i v a hv ha).lt k hk).2),h.once⟩
theorem RStoreAt.parts_to {R:RLoc} {S:Sto} {w w':World} (h:RStoreAt R S w) (pv':Value) (ps:List SPart) (hz:w.heap.size≤w'.heap.size) (he:∀k,R.pv.ownBlock≠some k→k≠R.sb→k<w.heap.size→w'.heap[k]? =w.heap[k]?) (hblk:Blk w' R.sb #[S.node,S.next,R.av,pv']) (hrow:w'.ownsRow 0 166 7 pv' ps.length (partsL ps)) (hm:Moved R.foot R.pv pv'):RStoreAt ⟨R.sb,R.av,pv',R.rv⟩ {S with parts:=ps} w':=by
 have hn:=h.ne_top;refine⟨hblk,row_heap h.acts (fun k hk=>he k (hn.2.2 k hk) (fun e=>hn.1 (by rw[hk,e])) (h.acts.lt k hk).2),hrow,h.len,fun i v a hv ha=>row_heap (h.regs i v a hv ha) (fun k hk=>he k (h.ne_regs hv k hk).2.2 (h.ne_regs hv k hk).1 ((h.regs i v a hv ha).lt k hk).2),?_⟩;obtain⟨h1,h2,h3,h4,h5,h6⟩:=rfoot_nodup.1 h.once;rw[rfoot_nodup];rcases hm with e | ⟨m,e,hF⟩
 · exact⟨h1,by rw[e];exact h2,h3,h4,fun k hk=>⟨by rw[e];exact(h5 k hk).1,(h5 k hk).2⟩,fun k hk=>h6 k (by rw[←e];exact hk)⟩
 · rw[RLoc.mem] at hF;refine⟨h1,?_,h3,h4,fun k hk=>⟨?_,(h5 k hk).2⟩,fun k hk=> ?_⟩
   · rw[e];intro e';injection e' with e';exact hF (.inl e')
   · rw[e];intro e';injection e' with e';subst e';exact hF (.inr (.inl hk))
   · rw[e] at hk;injection hk with hk;subst hk;exact fun hb=>hF (.inr (.inr (.inr hb)))
theorem rmem_pv {R:RLoc} {v':Value} {n:Nat} (hm:v'.ownBlock=R.pv.ownBlock∨∃m,v'.ownBlock=some m∧n≤m):∀k∈(RLoc.mk R.sb R.av v' R.rv).foot,k∈R.foot∨n≤k:=by
 intro k hk;rw[RLoc.mem] at hk⊢;rcases hk with h | h | h | h
 · exact .inl (.inl h)
 · exact .inl (.inr (.inl h))
 · rcases hm with e | ⟨m,e,hl⟩
   · exact .inl (.inr (.inr (.inl (e.symm.trans h))))
   · rw[e] at h;injection h with h;subst h;exact .inr hl
 · exact .inl (.inr (.inr (.inr h)))
theorem rjoin_goes {R : RLoc} {S : Sto} {w W w2 : World} {v2 : Value} {p : SPart} (h : RStoreAt R S W) (hb : Below w.heap.size w W) (hg : W.grownBy w2 R.pv.ownBlock) (ho : w2.ownsRow 0 166 7 v2 (S.parts.length + 1) (partsL S.parts ++ partL p)) (hat : v2.ownBlock = R.pv.ownBlock ∨ v2.ownBlock = some W.heap.size) :
    RGoes R {S with parts:=S.parts ++ [p]} w (w2.setCell ⟨R.sb,3,none⟩ v2):=by
 have hn:=h.ne_top;have hm:Moved R.foot R.pv v2:=hat.imp id (fun e=>⟨_,e,fun hk=>by have:=h.lt _ hk;omega⟩);have hv2:v2.ownBlock≠some R.sb:=by
  rcases hat with e | e
  · rw[e];exact hn.2.1
  · rw[e];intro e';injection e' with e';have:=h.blk.lt;omega
 have hblk:Blk w2 R.sb #[S.node,S.next,R.av,R.pv]:=h.blk.same hg.size (hg.block _ h.blk.lt (fun e=>hn.2.1 e.symm));refine⟨⟨R.sb,R.av,v2,R.rv⟩,rfl,h.parts_to v2 _ (by simpa using hg.size) (fun k hk hs hlt=> ?_) ?_ ?_ hm,?_⟩
 · rw[Below.heap_setCell _ _ _ _ hs];exact hg.block k hlt (fun e=>hk e.symm)
 · exact hblk.set' 3 (by simp) v2
 · rw[List.length_append];refine row_heap ?_ (fun k hk=>Below.heap_setCell _ _ _ _ (fun e=>hv2 (by rw[hk,e])));unfold partsL at ho⊢;rw[List.flatMap_append];simpa using ho
 · refine((Goes.of_below hb).trans ((Goes.grown hg (fun k hk=>RLoc.mem.2 (.inr (.inr (.inl hk))))).trans (Goes.setCell R.sb 3 v2 (RLoc.mem.2 (.inl rfl))))).change (fun k hk=> ?_);rcases rmem_pv (n:=W.heap.size) (hat.imp id (fun e=>⟨_,e,Nat.le_refl _⟩)) k hk with h1 | h1
   · exact .inl h1
   · exact .inr (Nat.le_trans hb.size h1)
theorem rseat_part_goes {R:RLoc} {S:Sto} {w w2:World} {g cap i:Nat} {p:SPart} (h:RStoreAt R S w) (hb:Below w.heap.size w w2) (hv:R.pv=.slice (some ⟨g,0,none⟩) S.parts.length cap) (hp:S.parts[i]? =some p) (t:MSeat):RGoes R {S with parts:=S.parts.set i {p with seat:=t}} w (putSeat4 w2 g (i*7+3) t):=by
 have h2:=h.below hb;have hrow:=h2.parts;rw[hv] at hrow;have hown:R.pv.ownBlock=some g:=by rw[hv];rfl
 refine⟨R,rfl,h2.parts_in _ (by rw[size_seat];exact Nat.le_refl _) (fun k hk _=>heap_seat _ _ _ _ _ (fun e=>hk (by rw[hown,e]))) ?_,(Goes.of_below hb).trans (Goes.seat g _ t (RLoc.mem.2 (.inr (.inr (.inl hown)))))⟩;rw[hv,List.length_set];exact part_seat hrow i p hp t
theorem rrg_part_goes {R:RLoc} {S:Sto} {w w2:World} {g cap i:Nat} {p:SPart} (h:RStoreAt R S w) (hb:Below w.heap.size w w2) (hv:R.pv=.slice (some ⟨g,0,none⟩) S.parts.length cap) (hp:S.parts[i]? =some p) (r:Int):RGoes R {S with parts:=S.parts.set i {p with rg:=r}} w (w2.setCell ⟨g,i*7+2,none⟩ (.int .i64 r)):=by
 have h2:=h.below hb;have hrow:=h2.parts;rw[hv] at hrow;have hown:R.pv.ownBlock=some g:=by rw[hv];rfl
 have hi:=(List.getElem?_eq_some_iff.1 hp).1;have he:=(List.getElem?_eq_some_iff.1 hp).2;refine⟨R,rfl,h2.parts_in _ (by simp) (fun k hk _=>Below.heap_setCell _ _ _ _ (fun e=>hk (by rw[hown,e]))) ?_,(Goes.of_below hb).trans (Goes.setCell g _ _ (RLoc.mem.2 (.inr (.inr (.inl hown)))))⟩;rw[hv,List.length_set];have hr:=row_set hrow (i*7+2) (.int .i64 r) (by omega)
 rw[show(partsL S.parts).set (i*7+2) (.int .i64 r)=partsL (S.parts.set i {p with rg:=r}) from flat_set partL 7 partL_len _ i 2 hi (by decide) _ _ (by rw[he];rfl)] at hr;exact hr
theorem rdec_goes {R:RLoc} {S:Sto} {w w2:World} {g cap i:Nat} {a:SAct} (h:RStoreAt R S w) (hb:Below w.heap.size w w2) (hv:R.av=.slice (some ⟨g,0,none⟩) S.acts.length cap) (ha:S.acts[i]? =some a) (d:Int):RGoes R {S with acts:=S.acts.set i {a with de:=d}} w (w2.setCell ⟨g,i*8+6,none⟩ (.int .i64 d)):=by
 have h2:=h.below hb;have hown:R.av.ownBlock=some g:=by rw[hv];rfl
 have hn:=h.ne_top;obtain⟨v,hvi⟩:∃v,R.rv[i]? =some v:=⟨_,List.getElem?_eq_getElem (by rw[h.len];exact(List.getElem?_eq_some_iff.1 ha).1)⟩
 have hset:R.rv.set i v=R.rv:=by
  obtain⟨hi,he⟩:=List.getElem?_eq_some_iff.1 hvi;rw[←he,List.set_getElem_self]
 refine⟨R,rfl,⟨h2.blk.same (by simp) (Below.heap_setCell _ _ _ _ (fun e=>hn.1 (by rw[hown,e]))),?_,row_heap h2.parts (fun k hk=>Below.heap_setCell _ _ _ _ (fun e=>hn.2.2 g hown (by rw[hk,e]))),by rw[List.length_set];exact h.len,fun j u b hu hb'=> ?_,h.once⟩,(Goes.of_below hb).trans (Goes.setCell g _ _ (RLoc.mem.2 (.inr (.inl hown))))⟩
 · have hr:=h2.acts;rw[hv] at hr⊢;have:=act_set h.len hr i 6 (by decide) a {a with de:=d} v v ha hvi (.int .i64 d) rfl;rw[hset] at this;rw[List.length_set];exact this
 · have hb2:(S.acts.set i {a with de:=d})[j]? =some b:=hb';have key:∀c,S.acts[j]? =some c→c.regs=b.regs→(w2.setCell ⟨g,i*8+6,none⟩ (.int .i64 d)).ownsRow 0 199 6 u b.regs.length (regsL b.regs):=fun c hc hcb=>by
    have:=h2.regs j u c hu hc;rw[hcb] at this;exact row_heap this (fun k hk=>Below.heap_setCell _ _ _ _ (fun e=>(h.ne_regs hu k hk).2.1 (by rw[hown,e])))
   by_cases hij:i=j
   · subst hij;rw[List.getElem?_set_self (List.getElem?_eq_some_iff.1 ha).1] at hb2;injection hb2 with hb2
     exact key a ha (by rw[←hb2])
   · rw[List.getElem?_set_ne hij] at hb2;exact key b hb2 rfl
open Go.RowKit Go.Shelf
def fzero (f:SFact) (ns:List Int):Bool:=(List.range 13).all fun i=>i==0 || ((fnums f).getD i 0==0 || ns.contains (i:Int))
def fnamed (k:Int):List Int:=if k=1 then[1,2,7,8,9] else if k=2 then[1,2,3,4,5,6] else if k=3 then[1,2,3,10,11] else if k=4 then[1,2,12] else if k=5 then[1,2] else if k=6 then[1,2,5,6] else if k=7 then[3,5] else if k=8 then[5,10,11] else[]
theorem rfok_eq (f:SFact):(fzero f (fnamed f.k) && (fpk f && (f.k==1 || decide (f.ex=0))))=fok f:=by
 obtain⟨k,an,aq,rg,nd,pt,pr,oc,dp,pa,st,hw,de,ex⟩:=f;by_cases h1:k=1
 · subst h1;simp only[fpk,fok,fnamed,fzero,fnums,if_true,if_false];generalize idOk an aq=b1;generalize stOk st hw=b2;generalize ctxOk an aq oc dp ex=b3;rw[Bool.eq_iff_iff]
   cases b1<;>cases b2<;>cases b3<;>simp[List.range,List.range.loop]<;>omega
 by_cases h2:k=2
 · subst h2;simp only[fpk,fok,fnamed,fzero,fnums,if_true,if_false,show ¬((2:Int)=1) by decide];generalize idOk an aq=b1;generalize stOk st hw=b2;generalize ctxOk an aq oc dp ex=b3;rw[Bool.eq_iff_iff]
   cases b1<;>cases b2<;>cases b3<;>simp[List.range,List.range.loop]<;>omega
 by_cases h3:k=3
 · subst h3;simp only[fpk,fok,fnamed,fzero,fnums,if_true,if_false,show ¬((3:Int)=1) by decide,show ¬((3:Int)=2) by decide];generalize idOk an aq=b1;generalize stOk st hw=b2;generalize ctxOk an aq oc dp ex=b3;rw[Bool.eq_iff_iff]
   cases b1<;>cases b2<;>cases b3<;>simp[List.range,List.range.loop]<;>omega
 by_cases h4:k=4
 · subst h4;simp only[fpk,fok,fnamed,fzero,fnums,if_true,if_false,show ¬((4:Int)=1) by decide,show ¬((4:Int)=2) by decide,show ¬((4:Int)=3) by decide];generalize idOk an aq=b1;generalize stOk st hw=b2;generalize ctxOk an aq oc dp ex=b3;rw[Bool.eq_iff_iff]
   cases b1<;>cases b2<;>cases b3<;>simp[List.range,List.range.loop]<;>omega
 by_cases h5:k=5
 · subst h5;simp only[fpk,fok,fnamed,fzero,fnums,if_true,if_false,show ¬((5:Int)=1) by decide,show ¬((5:Int)=2) by decide,show ¬((5:Int)=3) by decide,show ¬((5:Int)=4) by decide];generalize idOk an aq=b1;generalize stOk st hw=b2;generalize ctxOk an aq oc dp ex=b3;rw[Bool.eq_iff_iff]
   cases b1<;>cases b2<;>cases b3<;>simp[List.range,List.range.loop]<;>omega
 by_cases h6:k=6
 · subst h6;simp only[fpk,fok,fnamed,fzero,fnums,if_true,if_false,show ¬((6:Int)=1) by decide,show ¬((6:Int)=2) by decide,show ¬((6:Int)=3) by decide,show ¬((6:Int)=4) by decide,show ¬((6:Int)=5) by decide];generalize idOk an aq=b1;generalize stOk st hw=b2;generalize ctxOk an aq oc dp ex=b3;rw[Bool.eq_iff_iff]
   cases b1<;>cases b2<;>cases b3<;>simp[List.range,List.range.loop]<;>omega
 by_cases h7:k=7
 · subst h7;simp only[fpk,fok,fnamed,fzero,fnums,if_true,if_false,show ¬((7:Int)=1) by decide,show ¬((7:Int)=2) by decide,show ¬((7:Int)=3) by decide,show ¬((7:Int)=4) by decide,show ¬((7:Int)=5) by decide,show ¬((7:Int)=6) by decide];generalize idOk an aq=b1;generalize stOk st hw=b2;generalize ctxOk an aq oc dp ex=b3;rw[Bool.eq_iff_iff]
   cases b1<;>cases b2<;>cases b3<;>simp[List.range,List.range.loop]<;>omega
 by_cases h8:k=8
 · subst h8;simp only[fpk,fok,fnamed,fzero,fnums,if_true,if_false,show ¬((8:Int)=1) by decide,show ¬((8:Int)=2) by decide,show ¬((8:Int)=3) by decide,show ¬((8:Int)=4) by decide,show ¬((8:Int)=5) by decide,show ¬((8:Int)=6) by decide,show ¬((8:Int)=7) by decide];generalize idOk an aq=b1;generalize stOk st hw=b2;generalize ctxOk an aq oc dp ex=b3;rw[Bool.eq_iff_iff]
   cases b1<;>cases b2<;>cases b3<;>simp[List.range,List.range.loop]<;>omega
 simp[fpk,fok,h1,h2,h3,h4,h5,h6,h7,h8]
def IntsAt (w:World) (g:Nat) (xs:List Int):Prop:=∀i (h:i<xs.length),w.cell? ⟨g,i,none⟩=some (.int .i64 xs[i])
def Draws (v:Value) (w:World) (e:Ending) (w':World):Prop:=e=.returned v∧∃n,w'=w.drewN n
theorem OwnI.drewN {B:Nat} {v:Value} {xs:List Int} {w:World} (h:OwnI B v xs w) (n:Nat):OwnI B v xs (w.drewN n):=h
theorem Below.drewN {B:Nat} {a w:World} (h:Below B a w) (n:Nat):Below B a (w.drewN n):=⟨h.os,h.tape,h.output,h.size,h.block⟩
theorem RowsAt.alloc {w:World} {b:Nat} {rs:List Row} (h:RowsAt w b rs) (o:Obj):RowsAt (w.alloc o) b rs:=h.below ((Below.refl _ _).alloc (Nat.le_refl _) o)
theorem ActsAt.alloc {w:World} {b:Nat} {rs:List Act'} (h:ActsAt w b rs) (o:Obj):ActsAt (w.alloc o) b rs:=h.below ((Below.refl _ _).alloc (Nat.le_refl _) o)
def ReadI (w:World) (v:Value) (xs:List Int):Prop:=∃a cap,v=.slice a xs.length cap∧(xs≠[]→∃g,a=some ⟨g,0,none⟩∧g<w.heap.size∧IntsAt w g xs)
theorem OwnI.read {B:Nat} {v:Value} {xs:List Int} {w:World} (h:OwnI B v xs w):ReadI w v xs:=by
 rcases h.2 with⟨rfl,h0⟩ | ⟨g,cap,cur,rfl,_,hb,_,_,_,_⟩
 · exact⟨none,0,by rw[h0],fun hne=>absurd (List.eq_nil_of_length_eq_zero h0) hne⟩
 · refine⟨_,cap,rfl,fun _=>⟨g,rfl,(Array.getElem?_eq_some_iff.1 hb).1,fun i hi=> ?_⟩⟩;have h':w.ownsRow B 3 1 (.slice (some ⟨g,0,none⟩) xs.length cap) xs.length (xs.map (Value.int .i64)):=h;rw[h'.cellAt i (by simpa using hi)];simp[List.getElem?_eq_getElem hi]
theorem ReadI.below {w w':World} {v:Value} {xs:List Int} (h:ReadI w v xs) (hb:Below w.heap.size w w'):ReadI w' v xs:=by
 obtain⟨a,cap,rfl,h⟩:=h;refine⟨a,cap,rfl,fun hne=> ?_⟩;obtain⟨g,h1,h2,h3⟩:=h hne;exact⟨g,h1,Nat.lt_of_lt_of_le h2 hb.size,fun i hi=>(hb.cell (p:=⟨g,i,none⟩) h2).trans (h3 i hi)⟩
theorem Draws.below {v:Value} {w w':World} {e:Ending} (h:Draws v w e w'):e=.returned v∧Below w.heap.size w w':=by
 obtain⟨h1,n,rfl⟩:=h;exact⟨h1,Below.drewN (Below.refl _ _) n⟩
theorem in_any (xs : List Int) (n : Int) (v : Value) (w : World) (h : ReadI w v xs) (hl : xs.length ≤ 1000) :
    Calls Tryz.prog 199 #[v,.int .i64 n] w (Gives (.bool (xs.contains n)) w):=by
 obtain⟨a1,c1,rfl,h1⟩:=h;by_cases hne:xs=[]
 · subst hne;clear h1;simp only[List.length_nil];go_enter Tryz.func199,Tryz.ntmps199;go_wp2;refine wp_loop_rounds 1 ?_;rw[rounds_succ];go_wp2;go_ret;exact⟨rfl,rfl⟩
 · obtain⟨g1,rfl,_,i1⟩:=h1 hne;have I1:=qq i1;clear i1 h1 hne;go_enter Tryz.func199,Tryz.ntmps199;go_wp2;go_loop [9] (fun i=>∃k:Nat,k≤xs.length∧i=.int .i64 k∧Hid (∀j,(h:j<xs.length)→j<k→xs[j]≠n)) (fun i=>xs.length - (intOf i).toNat)
   case atStart=>exact⟨0,by omega,rfl,qq (fun j _ hj=>absurd hj (Nat.not_lt_zero _))⟩
   case round=>
    obtain⟨k,hk,rfl,HN⟩:=hrel;by_cases hlt:k<xs.length
    · have a1:=I1.out k hlt;by_cases hx:xs[k]=n
      · have hmem:xs.contains n=true:=by simp only[List.contains_eq_mem,decide_eq_true_eq];rw[←hx];exact List.getElem_mem _
        rw[hx] at a1;have HM:=qq hmem;clear hmem hx;go_wp2;go_ret;exact⟨ret_bool (by have:=HM.out;simp at this;simp[this]),rfl⟩
      · have hx':(xs[k]==n)=false:=by simpa using hx
        obtain⟨x,hxk⟩:∃x,x=xs[k]:=⟨_,rfl⟩
        rw[←hxk] at a1 hx';have HX:=qq hx;clear hx hxk;go_wp2;go_round
        case rel=>
         refine⟨k+1,by omega,by go_num,qq (fun j h hj=> ?_)⟩;rcases Nat.lt_succ_iff_lt_or_eq.1 hj with h' | rfl
         · exact HN.out j h h'
         · exact HX.out
        case measure=>simp[intOf];omega
    · have hmem:xs.contains n=false:=by
       simp only[List.contains_eq_mem,decide_eq_false_iff_not];intro hm;obtain⟨i,hi,rfl⟩:=List.mem_iff_getElem.1 hm;exact HN.out i hi (by omega) rfl
      have HM:=qq hmem;clear hmem;go_wp2;go_ret;exact⟨ret_bool (by have:=HM.out;simp at this;simp[this]),rfl⟩
end Go.Proofs.YtlkajejbfojkeaaGreatDoor
