/- StoG, MovEq, ParP, LeaP, StoM, StoA, StoR, StoN, RstA, StoB, FlC, FacA, FacE -/
import Derived.Test.YtlkajejbfojkeaaGreatDoorPMovCToStoP
import Derived.Maps.AppendAt
import Derived.Laws.Tables
set_option linter.unusedSimpArgs false
set_option linter.unusedVariables false
set_option maxRecDepth 100000
set_option maxHeartbeats 16000000
namespace Go.Proofs.YtlkajejbfojkeaaGreatDoor
theorem fok_any {f:SFact} (h:fok f=true):1≤f.k∧f.k≤8:=by
 unfold fok at h;by_cases h1:f.k=1;· omega
 by_cases h2:f.k=2;· omega
 by_cases h3:f.k=3;· omega
 by_cases h4:f.k=4;· omega
 by_cases h5:f.k=5;· omega
 by_cases h6:f.k=6;· omega
 by_cases h7:f.k=7;· omega
 by_cases h8:f.k=8;· omega
 simp[h1,h2,h3,h4,h5,h6,h7,h8] at h
theorem fok1 {f:SFact} (h:fok f=true) (hk:f.k=1):ctxOk f.an f.aq f.oc f.dp f.ex=true∧0≤f.pa∧f.pa≤8:=by
 unfold fok at h;rw[if_pos hk] at h;simp only[Bool.and_eq_true,decide_eq_true_eq] at h;exact⟨h.1.1,h.1.2.1,h.1.2.2⟩
theorem fok2 {f:SFact} (h:fok f=true) (hk:f.k=2):idOk f.an f.aq=true∧0≤f.rg∧f.rg≤5∧0≤f.nd∧f.nd≤3∧0≤f.pt∧f.pt≤7∧1≤f.pr∧f.pr≤2:=by
 unfold fok at h;simp[hk] at h;obtain⟨_,⟨h1,h2⟩,_⟩:=h;refine⟨h1,?_⟩;omega
theorem fok3 {f:SFact} (h:fok f=true) (hk:f.k=3):idOk f.an f.aq=true∧0≤f.rg∧f.rg≤5∧stOk f.st f.hw=true:=by
 unfold fok at h;simp[hk] at h;exact⟨h.2.1.1.1,h.2.1.1.2.1,h.2.1.1.2.2,h.2.1.2⟩
theorem fok4 {f:SFact} (h:fok f=true) (hk:f.k=4):idOk f.an f.aq=true∧1≤f.de∧f.de≤2:=by
 unfold fok at h;simp[hk] at h;exact⟨h.2.1.1,h.2.1.2.1,h.2.1.2.2⟩
theorem fok6 {f:SFact} (h:fok f=true) (hk:f.k=6):idOk f.an f.aq=true∧0≤f.pt∧f.pt≤7∧1≤f.pr∧f.pr≤2:=by
 unfold fok at h;simp[hk] at h;obtain⟨_,⟨h1,h2⟩,_⟩:=h;refine⟨h1,?_⟩;omega
theorem fok7 {f:SFact} (h:fok f=true) (hk:f.k=7):0≤f.pt∧f.pt≤7∧0≤f.rg∧f.rg≤5:=by
 unfold fok at h;simp[hk] at h;omega
theorem fok8 {f:SFact} (h:fok f=true) (hk:f.k=8):0≤f.pt∧f.pt≤7∧stOk f.st f.hw=true:=by
 unfold fok at h;simp[hk] at h;exact⟨h.2.1.1.1,h.2.1.1.2,h.2.1.2⟩
theorem idOk_iff (n q:Int):idOk n q=true↔0≤n∧n≤3∧0≤q∧q≤999999:=by unfold idOk;simp
theorem ctxOk_id {n q oc dp:Int} {ex:Nat} (h:ctxOk n q oc dp ex=true):0≤n∧n≤3∧0≤q∧q≤999999:=by
 unfold ctxOk at h;simp only[Bool.and_eq_true] at h;exact(idOk_iff _ _).1 h.1.2
theorem new_right (p d:Int) (hp:1≤p∧p≤2) (hd:d=1∨d=2):mRight ⟨p,d,1,0⟩=true:=by
 obtain rfl | rfl:p=1∨p=2:=by omega
 all_goals (rcases hd with rfl | rfl<;>decide+kernel)
theorem sturn_some {x t:MSeat} {s h:Int} (ht:sturn x s h=some t):x.s≠14∧t=⟨x.p,x.d,s,h⟩∧mRight t=true:=by
 unfold sturn at ht;split at ht
 · cases ht
 · rename_i hn
   injection ht with ht
   subst ht;refine⟨fun h=>hn (.inl h),rfl,?_⟩
   cases hm:mRight ⟨x.p,x.d,s,h⟩ with
   | true=>rfl
   | false=>exact absurd (.inr hm) hn
theorem pairwise_key {α:Type} {R:Int→Int→Prop} (f:α→Int) (l:List α) (i:Nat) (b:α) (hb:∀a,l[i]? =some a→f b=f a) (h:l.Pairwise fun x y=>R (f x) (f y)):(l.set i b).Pairwise fun x y=>R (f x) (f y):=by
 rw[←List.pairwise_map (R:=R) (f:=f)] at h⊢;rw[List.map_set];by_cases hi:i<l.length
 · have e:f b=(l.map f)[i]'(by simpa using hi):=by rw[hb l[i] (List.getElem?_eq_getElem hi)];simp
   rw[e,List.set_getElem_self];exact h
 · rw[List.set_eq_of_length_le (by simpa using Nat.le_of_not_lt hi)];exact h
structure AGood (node next:Int) (np:Nat) (a:SAct):Prop where
 id:a.an=node∧0≤a.aq∧a.aq<next
 ctx:ctxOk a.an a.aq a.oc a.dp a.ex=true
 pa:0≤a.pa∧a.pa≤np
 de:a.de=0∨a.oc=1∧(a.de=1∨a.de=2)
 len:a.regs.length≤6
 reg:∀r∈a.regs,0≤r.n∧r.n≤3∧0≤r.p∧r.p≤7∧r.seat.d=1∧mRight r.seat=true
 once:a.regs.Pairwise fun r t=>¬(r.n=t.n∧r.p=t.p)
def PGood (p:SPart):Prop:=idOk p.an p.aq=true∧(p.rg= -1∨0≤p.rg∧p.rg≤5)∧p.seat.d=2∧mRight p.seat=true
structure StoGood (S:Sto):Prop where
 node:0≤S.node∧S.node≤3
 next:0≤S.next∧S.next≤1000000
 acts:S.acts.length≤8
 parts:S.parts.length≤8
 act:∀a∈S.acts,AGood S.node S.next S.parts.length a
 part:∀p∈S.parts,PGood p
 sorted:S.acts.Pairwise fun a b=>a.aq<b.aq
 child:S.acts.Pairwise fun a b=>0<a.pa→a.pa≠b.pa
theorem AGood.more {node next next':Int} {np np':Nat} {a:SAct} (h:AGood node next np a) (h1:next≤next') (h2:np≤np'):AGood node next' np' a:=
 ⟨⟨h.id.1,h.id.2.1,by have:=h.id.2.2;omega⟩,h.ctx,⟨h.pa.1,by have:=h.pa.2;omega⟩,h.de,h.len,h.reg,h.once⟩
theorem StoGood.new {n:Int} (h0:0≤n) (h1:n≤3):StoGood ⟨n,0,[],[]⟩:=
 ⟨⟨h0,h1⟩,⟨by show(0:Int)≤0;decide,by show(0:Int)≤1000000;decide⟩,by simp,by simp,fun a h=>by simp at h,fun a h=>by simp at h,.nil,.nil⟩
theorem sact_some {a b:SAct} {f:SFact} {node next:Int} {np:Nat} (hA:AGood node next np a) (hf:fok f=true) (hk:f.k=2∨f.k=3∨f.k=4) (h:sact a f=some b):AGood node next np b∧b.aq=a.aq∧b.pa=a.pa:=by
 unfold sact at h;rcases hk with hk | hk | hk
 · rw[if_pos hk] at h;obtain⟨f1,f2,f3,f4,f5,f6,f7,f8,f9⟩:=fok2 hf hk;split at h
   · cases h
   · rename_i hn
     injection h with h
     subst h;have h1:f.rg=a.regs.length:=Classical.byContradiction fun e=>hn (.inl e)
     have h3:¬(a.regs.any fun r=>decide (r.n=f.nd∧r.p=f.pt))=true:=fun e=>hn (.inr (.inr e))
     refine⟨⟨hA.id,hA.ctx,hA.pa,hA.de,?_,?_,?_⟩,rfl,rfl⟩
     · simp only[List.length_append,List.length_cons,List.length_nil];omega
     · intro r hr;rcases List.mem_append.1 hr with hr | hr
       · exact hA.reg r hr
       · obtain rfl:=List.mem_singleton.1 hr;exact⟨f4,f5,f6,f7,rfl,new_right _ _ ⟨f8,f9⟩ (.inl rfl)⟩
     · refine List.pairwise_append.2 ⟨hA.once,by simp,fun r hr t ht he=>h3 ?_⟩;obtain rfl:=List.mem_singleton.1 ht;exact List.any_eq_true.2 ⟨r,hr,by simpa using he⟩
 · rw[if_neg (by omega),if_pos hk] at h
   cases hr:a.regs[f.rg.toNat]? with
   | none=>rw[hr] at h;cases h
   | some r=>
    rw[hr] at h;simp only[Option.map_eq_some_iff] at h;obtain⟨t,ht,rfl⟩:=h;obtain⟨t1,t2,t3⟩:=sturn_some ht;have hm:r∈a.regs:=List.mem_of_getElem? hr;refine⟨⟨hA.id,hA.ctx,hA.pa,hA.de,by simpa using hA.len,?_,?_⟩,rfl,rfl⟩
    · intro x hx;rcases List.mem_or_eq_of_mem_set hx with hx | rfl
      · exact hA.reg x hx
      · obtain⟨r1,r2,r3,r4,r5,r6⟩:=hA.reg r hm;exact⟨r1,r2,r3,r4,by rw[t2];exact r5,t3⟩
    · have hA2:=hA.once;rw[←List.pairwise_map (R:=fun(x y:Int×Int)=>¬(x.1=y.1∧x.2=y.2)) (f:=fun r:SReg=>(r.n,r.p))] at hA2;show List.Pairwise (fun r t=>¬(r.n=t.n∧r.p=t.p)) (a.regs.set f.rg.toNat {r with seat:=t})
      rw[←List.pairwise_map (R:=fun(x y:Int×Int)=>¬(x.1=y.1∧x.2=y.2)) (f:=fun r:SReg=>(r.n,r.p))];rw[List.map_set];obtain⟨hi,he⟩:=List.getElem?_eq_some_iff.1 hr;have e:(r.n,r.p)=(a.regs.map fun r:SReg=>(r.n,r.p))[f.rg.toNat]'(by simpa using hi):=by simp[he]
      show List.Pairwise (fun x y=>¬(x.1=y.1∧x.2=y.2)) ((a.regs.map fun r:SReg=>(r.n,r.p)).set f.rg.toNat (r.n,r.p))
      rw[e,List.set_getElem_self];exact hA2
 · rw[if_neg (by omega),if_neg (by omega)] at h;split at h
   · cases h
   · rename_i hn
     injection h with h
     subst h;obtain⟨f1,f2,f3⟩:=fok4 hf hk;have h1:a.oc=1:=Classical.byContradiction fun e=>hn (.inl e)
     exact⟨⟨hA.id,hA.ctx,hA.pa,.inr ⟨h1,by show f.de=1∨f.de=2;omega⟩,hA.len,hA.reg,hA.once⟩,rfl,rfl⟩
theorem sput_good {S T:Sto} {f:SFact} (hS:StoGood S) (hf:fok f=true) (h:sput S f=some T):StoGood T:=by
 have hk:=fok_any hf;unfold sput at h;by_cases k1:f.k=1
 · rw[if_pos k1] at h;obtain⟨f1,f2,f3⟩:=fok1 hf k1;have fi:=ctxOk_id f1;split at h
   · cases h
   · rename_i hn
     injection h with h
     subst h;have h1:f.an=S.node:=Classical.byContradiction fun e=>hn (.inl e)
     have h2:S.next≤f.aq:=Classical.byContradiction fun e=>hn (.inr (.inl (by omega)))
     have h3:S.acts.length<8:=Classical.byContradiction fun e=>hn (.inr (.inr (.inl (by omega))))
     have h4:0<f.pa→f.pa≤S.parts.length∧schild S f.pa=none:=fun hp=>by
      refine⟨Classical.byContradiction fun e=>hn (.inr (.inr (.inr ⟨hp,.inl (by omega)⟩))),?_⟩
      cases hc:schild S f.pa with
      | none=>rfl
      | some i=>exact absurd (.inr (.inr (.inr ⟨hp,.inr (by rw[hc];rfl)⟩))) hn
     have hnx:=hS.next;refine⟨hS.node,⟨by show 0≤f.aq+1;omega,by show f.aq+1≤1000000;omega⟩,by simp;omega,hS.parts,?_,hS.part,?_,?_⟩
     · intro a ha;rcases List.mem_append.1 ha with ha | ha
       · exact(hS.act a ha).more (by show S.next≤f.aq+1;omega) (Nat.le_refl _)
       · obtain rfl:=List.mem_singleton.1 ha;refine⟨⟨h1,fi.2.2.1,by show f.aq<f.aq+1;omega⟩,f1,⟨f2,?_⟩,.inl rfl,by simp,fun r hr=>by simp at hr,.nil⟩;show f.pa≤(S.parts.length:Int)
         by_cases hp:0<f.pa
         · exact(h4 hp).1
         · omega
     · refine List.pairwise_append.2 ⟨hS.sorted,by simp,fun a ha b hb=> ?_⟩;obtain rfl:=List.mem_singleton.1 hb;have:=(hS.act a ha).id.2.2;show a.aq<f.aq
       omega
     · refine List.pairwise_append.2 ⟨hS.child,by simp,fun a ha b hb hp he=> ?_⟩;obtain rfl:=List.mem_singleton.1 hb;have he':a.pa=f.pa:=he;have hc:=(h4 (by omega)).2;have:=List.findIdx?_eq_none_iff.1 hc a ha;simp[he'] at this
 rw[if_neg k1] at h;by_cases k6:f.k=6
 · rw[if_pos k6] at h;obtain⟨f1,f2,f3,f4,f5⟩:=fok6 hf k6;split at h
   · cases h
   · rename_i hn
     injection h with h
     subst h;have h1:f.pt=S.parts.length:=Classical.byContradiction hn;refine⟨hS.node,hS.next,hS.acts,by simp;omega,fun a ha=>(hS.act a ha).more (Int.le_refl _) (by simp),?_,hS.sorted,hS.child⟩;intro p hp;rcases List.mem_append.1 hp with hp | hp
     · exact hS.part p hp
     · obtain rfl:=List.mem_singleton.1 hp;exact⟨f1,.inl rfl,rfl,new_right _ _ ⟨f4,f5⟩ (.inr rfl)⟩
 rw[if_neg k6] at h;by_cases k78:f.k=7∨f.k=8
 · rw[if_pos k78] at h
   cases hp:S.parts[f.pt.toNat]? with
   | none=>rw[hp] at h;cases h
   | some p=>
    rw[hp] at h;simp only at h;have hm:p∈S.parts:=List.mem_of_getElem? hp;obtain⟨p1,p2,p3,p4⟩:=hS.part p hm;by_cases k8:f.k=8
    · rw[if_pos k8] at h;simp only[Option.map_eq_some_iff] at h;obtain⟨t,ht,rfl⟩:=h;obtain⟨t1,t2,t3⟩:=sturn_some ht;refine⟨hS.node,hS.next,hS.acts,by simpa using hS.parts,fun a ha=>(hS.act a ha).more (Int.le_refl _) (by simp),?_,hS.sorted,hS.child⟩;intro x hx;rcases List.mem_or_eq_of_mem_set hx with hx | rfl
      · exact hS.part x hx
      · exact⟨p1,p2,by rw[t2];exact p3,t3⟩
    · rw[if_neg k8] at h;have k7:f.k=7:=k78.resolve_right k8;obtain⟨f1,f2,f3,f4⟩:=fok7 hf k7;split at h
      · cases h
      · injection h with h
        subst h;refine⟨hS.node,hS.next,hS.acts,by simpa using hS.parts,fun a ha=>(hS.act a ha).more (Int.le_refl _) (by simp),?_,hS.sorted,hS.child⟩;intro x hx;rcases List.mem_or_eq_of_mem_set hx with hx | rfl
        · exact hS.part x hx
        · exact⟨p1,.inr ⟨f3,f4⟩,p3,p4⟩
 rw[if_neg k78] at h
 cases hi:sfind S f.an f.aq with
 | none=>rw[hi] at h;cases h
 | some i=>
  rw[hi] at h;simp only at h
  cases ha:S.acts[i]? with
  | none=>rw[ha] at h;cases h
  | some a=>
   rw[ha] at h;simp only at h;have hm:a∈S.acts:=List.mem_of_getElem? ha;by_cases k5:f.k=5
   · rw[if_pos k5] at h;split at h
     · cases h
     · injection h with h
       subst h;have hs:(S.acts.take i ++S.acts.drop (i+1)).Sublist S.acts:=by
        rw[←List.eraseIdx_eq_take_drop_succ];exact List.eraseIdx_sublist _ _
       refine⟨hS.node,hS.next,Nat.le_trans hs.length_le hS.acts,hS.parts,fun x hx=>hS.act x (hs.subset hx),hS.part,hS.sorted.sublist hs,hS.child.sublist hs⟩
   · rw[if_neg k5] at h;simp only[Option.map_eq_some_iff] at h;obtain⟨b,hb,rfl⟩:=h;obtain⟨b1,b2,b3⟩:=sact_some (hS.act a hm) hf (by omega) hb;refine⟨hS.node,hS.next,by simpa using hS.acts,hS.parts,?_,hS.part,?_,?_⟩
     · intro x hx;rcases List.mem_or_eq_of_mem_set hx with hx | rfl
       · exact hS.act x hx
       · exact b1
     · exact pairwise_key (R:=fun x y=>x<y) (fun a:SAct=>a.aq) _ _ _ (fun x hx=>by rw[ha] at hx;injection hx with hx;rw[←hx];exact b2) hS.sorted
     · exact pairwise_key (R:=fun x y=>0<x→x≠y) (fun a:SAct=>a.pa) _ _ _ (fun x hx=>by rw[ha] at hx;injection hx with hx;rw[←hx];exact b3) hS.child
theorem sapply_good {S:Sto} {f:SFact} (hS:StoGood S):StoGood (sapply S f).1:=by
 unfold sapply;by_cases hf:fok f=false
 · rw[if_pos hf];exact hS
 · rw[if_neg hf]
   cases h:sput S f with
   | none=>exact hS
   | some T=>exact sput_good hS (by simpa using hf) h
def hows:List Int:=[1,4,5,6,7,8]
def eqAt (x:MSeat) (k:Int):Bool:=decide (mTell x k=gTell x k) && decide (mDo x k=gDo x k)
def eqSeat (p d s:Nat):Bool:=(if s=14 then hows else[0]).all fun h=> !rHas p d s || (List.range 15).all fun k:Nat=>eqAt ⟨p,d,s,h⟩ k
theorem eq_all:((List.range 3).all fun p=>(List.range 3).all fun d=>(List.range 15).all fun s=>p==0 || d==0 || eqSeat p d s)=true:=by decide+kernel
theorem eq_wrong {x:MSeat} {k:Int} (h:mRight x=false):mTell x k=gTell x k∧mDo x k=gDo x k:=by
 unfold mTell gTell mDo gDo;rw[if_pos h,if_pos h,if_pos h,if_pos h];exact⟨rfl,rfl⟩
theorem rTakes_out2 {p d k:Int} (h:¬(0≤k∧k≤14)):rTakes p d k=false:=by
 unfold rTakes;simp only[decide_eq_false_iff_not];omega
theorem eq_out {x:MSeat} {k:Int} (hr:¬mRight x=false) (h:¬(0≤k∧k≤14)):mTell x k=gTell x k∧mDo x k=gDo x k:=by
 have h1:(rLook x.p x.d k x.s).2≠0:=by
  unfold rLook;rw[rTakes_out2 h];by_cases hs:rSide x.p x.d=false
  · rw[if_pos hs];simp
  · rw[if_neg hs,if_pos rfl];simp
 have h2:(rStep x.p x.d k x.s).2≠0:=by
  unfold rStep;rw[rSends_out (fun h'=>h ⟨by omega,by omega⟩)];by_cases hs:rSide x.p x.d=false
  · rw[if_pos hs];simp
  · rw[if_neg hs,if_pos rfl];simp
 unfold mTell gTell mDo gDo;rw[if_neg hr,if_neg hr,if_pos h1,if_pos h1,if_neg hr,if_neg hr,if_pos h2,if_pos h2];exact⟨rfl,rfl⟩
theorem eq_any (x:MSeat) (k:Int):mTell x k=gTell x k∧mDo x k=gDo x k:=by
 by_cases hr:mRight x=false
 · exact eq_wrong hr
 by_cases hk:0≤k∧k≤14
 case neg=>exact eq_out hr hk
 have h1:=right_eq x;rw[show mRight x=true by simpa using hr] at h1;have h2:=h1.symm;simp only[Bool.and_eq_true,decide_eq_true_eq] at h2;obtain⟨⟨⟨p1,p2,d1,d2⟩,hh⟩,hw⟩:=h2;obtain⟨p,d,s,h⟩:=x;simp only at p1 p2 d1 d2 hh hw;have hs:1≤s∧s≤14:=by
  refine Decidable.byContradiction fun hs=> ?_
  rw[rHas_out hs] at hh;cases hh
 obtain⟨pn,rfl⟩:∃n:Nat,p=n:=⟨p.toNat,by omega⟩
 obtain⟨dn,rfl⟩:∃n:Nat,d=n:=⟨d.toNat,by omega⟩
 obtain⟨sn,rfl⟩:∃n:Nat,s=n:=⟨s.toNat,by omega⟩
 obtain⟨kn,rfl⟩:∃n:Nat,k=n:=⟨k.toNat,by omega⟩
 have ha:=List.all_eq_true.1 (List.all_eq_true.1 (List.all_eq_true.1 eq_all pn (List.mem_range.2 (by omega))) dn (List.mem_range.2 (by omega))) sn (List.mem_range.2 (by omega));simp only[Bool.or_eq_true,beq_iff_eq] at ha;have hb:eqSeat pn dn sn=true:=by
  rcases ha with(ha | ha) | ha
  · omega
  · omega
  · exact ha
 unfold eqSeat at hb;have hm:h∈(if sn=14 then hows else[0]):=by
  by_cases h14:sn=14
  · subst h14;rw[if_pos (show((14:Nat):Int)=14 from rfl)] at hw;rw[if_pos rfl];simp only[decide_eq_true_eq] at hw;simp[hows];omega
  · rw[if_neg h14];rw[if_neg (by omega)] at hw;simpa using hw
 have hc:=List.all_eq_true.1 hb h hm;simp only[Bool.or_eq_true,Bool.not_eq_true',hh,Bool.true_eq_false,false_or] at hc;have he:=List.all_eq_true.1 hc kn (List.mem_range.2 (by omega));unfold eqAt at he;simp only[Bool.and_eq_true,decide_eq_true_eq] at he;exact he
structure SMsg where
 k:Int
 fr:Int
 to:Int
 an:Int
 aq:Int
 rg:Int
 pt:Int
 pr:Int
 co:Int
 deriving DecidableEq
structure SRes where
 fs:List SFact
 ms:List SMsg
 wk:Int
def msg0:SMsg:=⟨0,0,0,0,0,0,0,0,0⟩
def res0:SRes:=⟨[],[],0⟩
def sfit:Sto→List SFact→Sto×Bool
 | S,[]=>(S,true)
 | S,f::t=>if(sapply S f).2=0 then sfit (sapply S f).1 t else((sapply S f).1,false)
/-! a seat that is right: what comes of telling it, by a finite look -/
def seatList:List MSeat:=([1,2]:List Int).flatMap fun p=>([1,2]:List Int).flatMap fun d=>([1,2,3,4,5,6,7,8,9,10,11,12,13,14]:List Int).flatMap fun s=>(if s=14 then[1,4,5,6,7,8] else[0]).map fun h=>⟨p,d,s,h⟩
theorem seat_mem {x:MSeat} (h:mRight x=true):x∈seatList:=by
 rw[right_eq] at h;simp only[Bool.and_eq_true,decide_eq_true_eq] at h;obtain⟨⟨h1,h2⟩,h3⟩:=h;obtain⟨p,d,s,hh⟩:=x;dsimp only at h1 h2 h3;have hs:1≤s∧s≤14:=Decidable.byContradiction fun hs=>by rw[rHas_out hs] at h2;cases h2
 unfold seatList;refine List.mem_flatMap.2 ⟨p,by simp;omega,List.mem_flatMap.2 ⟨d,by simp;omega,List.mem_flatMap.2 ⟨s,by simp;omega,List.mem_map.2 ⟨hh,?_,rfl⟩⟩⟩⟩;by_cases h14:s=14
 · rw[if_pos h14] at h3⊢;simp at h3⊢;omega
 · rw[if_neg h14] at h3⊢;simpa using h3
def kinds15:List Int:=[0,1,2,3,4,5,6,7,8,9,10,11,12,13,14]
def fSeat (an aq rg s h:Int):SFact:=⟨3,an,aq,rg,0,0,0,0,0,0,s,h,0,0⟩
def fDecide (an aq de:Int):SFact:=⟨4,an,aq,0,0,0,0,0,0,0,0,0,de,0⟩
def lGet (S:Sto) (n q:Int):Option (Nat×SAct):=match sfind S n q with
 | none=>none
 | some i=>match S.acts[i]? with
  | none=>none
  | some a=>some (i,a)
def lReg (a:SAct) (rg:Int):Option SReg:=if 0≤rg then a.regs[rg.toNat]? else none
def lMsg (S:Sto) (a:SAct) (r:SReg) (rg k:Int):SMsg:=⟨k,S.node,r.n,a.an,a.aq,rg,r.p,0,0⟩
theorem lGet_some {S:Sto} {n q:Int} {i:Nat} {a:SAct} (h:lGet S n q=some (i,a)):sfind S n q=some i∧S.acts[i]? =some a∧a∈S.acts∧a.an=n∧a.aq=q:=by
 unfold lGet at h
 cases hi:sfind S n q with
 | none=>rw[hi] at h;cases h
 | some j=>
  rw[hi] at h;simp only at h
  cases ha:S.acts[j]? with
  | none=>rw[ha] at h;cases h
  | some b=>
   rw[ha] at h;injection h with h
   injection h with h1 h2
   subst h1 h2;refine⟨rfl,ha,List.mem_of_getElem? ha,?_⟩;unfold sfind at hi;obtain⟨hj,hq,_⟩:=List.findIdx?_eq_some_iff_getElem.1 hi;obtain⟨hj',he⟩:=List.getElem?_eq_some_iff.1 ha;rw[he] at hq;simpa using hq
theorem lGet_set {S:Sto} {n q:Int} {i:Nat} {a b:SAct} (h:lGet S n q=some (i,a)) (h1:b.an=a.an) (h2:b.aq=a.aq):lGet {S with acts:=S.acts.set i b} n q=some (i,b):=by
 obtain⟨g1,g2,g3,g4,g5⟩:=lGet_some h;obtain⟨hi,he⟩:=List.getElem?_eq_some_iff.1 g2;have hf:sfind {S with acts:=S.acts.set i b} n q=some i:=by
  unfold sfind at g1⊢;rw[List.findIdx?_eq_some_iff_getElem] at g1⊢;obtain⟨k1,k2,k3⟩:=g1;refine⟨by simpa using hi,by simp[h1,h2,g4,g5],fun j hj=> ?_⟩;have:=k3 j hj;show ¬(decide (((S.acts.set i b)[j]'_).an=n∧((S.acts.set i b)[j]'_).aq=q))=true
  rw[List.getElem_set_ne (by omega)];exact this
 unfold lGet;rw[hf];simp[hi]
theorem apply_seat {S : Sto} {an aq rg s h : Int} {i : Nat} {a : SAct} {r : SReg} (hS : StoGood S) (hg : lGet S an aq = some (i, a)) (hr : lReg a rg = some r) (h14 : r.seat.s ≠ 14) (hm : mRight ⟨r.seat.p, r.seat.d, s, h⟩ = true) (hok0 : stOk s h = true) :
    sapply S (fSeat an aq rg s h)=({S with acts:=S.acts.set i {a with regs:=a.regs.set rg.toNat {r with seat:=⟨r.seat.p,r.seat.d,s,h⟩}}},0):=by
 obtain⟨g1,g2,g3,g4,g5⟩:=lGet_some hg;have hA:=hS.act a g3;have hid:=ctxOk_id hA.ctx;have hidk:idOk an aq=true:=(idOk_iff _ _).2 (by rw[←g4,←g5];exact hid);have hlen:=hA.len;have h0:0≤rg∧a.regs[rg.toNat]? =some r:=by
  unfold lReg at hr;split at hr
  · exact⟨by assumption,hr⟩
  · cases hr
 have hlt:=(List.getElem?_eq_some_iff.1 h0.2).1;have hok:fok (fSeat an aq rg s h)=true:=by unfold fok fSeat;simp[hidk,hok0];omega
 unfold sapply;rw[if_neg (by rw[hok];simp)];have hput:sput S (fSeat an aq rg s h)=some {S with acts:=S.acts.set i {a with regs:=a.regs.set rg.toNat {r with seat:=⟨r.seat.p,r.seat.d,s,h⟩}}}:=by
  unfold sput;rw[if_neg (by simp[fSeat]),if_neg (by simp[fSeat]),if_neg (by simp[fSeat])];show(match sfind S an aq with | none=>none | some i=>_)=_
  rw[g1];simp only;rw[g2];simp only;rw[if_neg (by simp[fSeat])];have hs:sact a (fSeat an aq rg s h)=some {a with regs:=a.regs.set rg.toNat {r with seat:=⟨r.seat.p,r.seat.d,s,h⟩}}:=by
   unfold sact;rw[if_neg (by simp[fSeat]),if_pos (by simp[fSeat])];show(match a.regs[rg.toNat]? with | none=>none | some r=>_)=_
   rw[h0.2];simp only;have ht:sturn r.seat (fSeat an aq rg s h).st (fSeat an aq rg s h).hw=some ⟨r.seat.p,r.seat.d,s,h⟩:=by
    unfold sturn;rw[if_neg (by
      rintro(e | e)
      · exact h14 e
      · have e':mRight ⟨r.seat.p,r.seat.d,s,h⟩=false:=e;rw[hm] at e';cases e')]
    rfl
   rw[ht];rfl
  rw[hs];rfl
 rw[hput]
open Go.RowKit
theorem Blk.same {w w':World} {b:Nat} {C:Array Value} (h:Blk w b C) (hz:w.heap.size≤w'.heap.size) (he:w'.heap[b]? =w.heap[b]?):Blk w' b C:=
 ⟨Nat.lt_of_lt_of_le h.lt hz,fun i=>(World.cell?_of_block (w:=w) (a:=⟨b,i,none⟩) he).trans (h.cell i),fun i=>(World.frozen?_of_block (w:=w) (a:=⟨b,i,none⟩) he).trans (h.free i)⟩
theorem row_heap {w w':World} {B:Nat} {e:TypeId} {size:Nat} {v:Value} {n:Nat} {xs:List Value} (h:w.ownsRow B e size v n xs) (he:∀k,v.ownBlock=some k→w'.heap[k]? =w.heap[k]?):w'.ownsRow B e size v n xs:=by
 refine⟨h.1,?_⟩;rcases h.2 with hn | ⟨g,cap,cur,rfl,hb,hg,r⟩
 · exact .inl hn
 · exact .inr ⟨g,cap,cur,rfl,hb,(he g rfl).trans hg,r⟩
theorem row_slice {w:World} {B:Nat} {e:TypeId} {size:Nat} {v:Value} {n:Nat} {xs:List Value} (h:w.ownsRow B e size v n xs):∃a cap,v=.slice a n cap:=by
 rcases h.2 with⟨rfl,rfl⟩ | ⟨g,cap,cur,rfl,_⟩
 · exact⟨_,_,rfl⟩
 · exact⟨_,_,rfl⟩
theorem row_form {w : World} {B : Nat} {e : TypeId} {size : Nat} {v : Value} {n : Nat} {xs : List Value} (h : w.ownsRow B e size v n xs) (hn : 0 < n) :
    ∃g cap,v=.slice (some ⟨g,0,none⟩) n cap∧n≤cap∧cap≤maxLen∧g<w.heap.size∧(∀i u,xs[i]? =some u→w.cell? ⟨g,i,none⟩=some u)∧∀i,w.frozen? ⟨g,i,none⟩=false:=by
 rcases h.2 with⟨rfl,rfl⟩ | ⟨g,cap,cur,rfl,hb,hg,hc,hm,hs,ht⟩
 · omega
 · refine⟨g,cap,rfl,hc,hm,(Array.getElem?_eq_some_iff.1 hg).1,fun i u hu=> ?_,fun i=>by simp[World.frozen?,hg]⟩;have:=h.cells (g:=g) rfl i u hu;rwa[Addr.add_lit,Nat.zero_add] at this
theorem row_set {w:World} {B:Nat} {e:TypeId} {size g cap n:Nat} {xs:List Value} (h:w.ownsRow B e size (.slice (some ⟨g,0,none⟩) n cap) n xs) (i:Nat) (x:Value) (hi:i<n*size):(w.setCell ⟨g,i,none⟩ x).ownsRow B e size (.slice (some ⟨g,0,none⟩) n cap) n (xs.set i x):=by
 refine⟨by rw[List.length_set];exact h.1,?_⟩;rcases h.2 with⟨hv,_⟩ | ⟨g',cap',cur,hv,hb,hg,hc,hm,hs,ht⟩
 · cases hv
 · obtain⟨rfl,rfl⟩:g=g'∧cap=cap':=by simp at hv;exact hv
   refine .inr ⟨g,cap,cur.setIfInBounds i x,rfl,hb,?_,hc,hm,by simpa using hs,?_⟩
   · rw[setCell_eq_setRow w g i cur e (0,0) x hg];exact setRow_heap w g cur _ e _ hg
   · rw[Array.toList_setIfInBounds,List.take_set,ht]
theorem row_take {w:World} {B:Nat} {e:TypeId} {size g cap n:Nat} {xs:List Value} (h:w.ownsRow B e size (.slice (some ⟨g,0,none⟩) n cap) n xs) (m:Nat) (hm:m≤n):w.ownsRow B e size (.slice (some ⟨g,0,none⟩) m cap) m (xs.take (m*size)):=by
 have hl:=h.1;refine⟨by rw[List.length_take,hl];exact Nat.min_eq_left (Nat.mul_le_mul_right _ hm),?_⟩;rcases h.2 with⟨hv,_⟩ | ⟨g',cap',cur,hv,hb,hg,hc,hmx,hs,ht⟩
 · cases hv
 · obtain⟨rfl,rfl⟩:g=g'∧cap=cap':=by simp at hv;exact hv
   exact .inr ⟨g,cap,cur,rfl,hb,hg,by omega,hmx,hs,by rw[←ht,List.take_take,Nat.min_eq_left (Nat.mul_le_mul_right _ hm)]⟩
structure Goes (F F':List Nat) (w w':World):Prop where
 os:w'.os=w.os
 tape:w'.tape=w.tape
 output:w'.output=w.output
 size:w.heap.size≤w'.heap.size
 block:∀k,k<w.heap.size→k∉F→w'.heap[k]? =w.heap[k]?
 new:∀k∈F',k∈F∨w.heap.size≤k
theorem Goes.same {F F':List Nat} {w w':World} (hb:Below w.heap.size w w') (h:∀k∈F',k∈F):Goes F F' w w':=⟨hb.os,hb.tape,hb.output,hb.size,fun k hk _=>hb.block k hk,fun k hk=> .inl (h k hk)⟩
theorem Goes.of_below {F:List Nat} {w w':World} (hb:Below w.heap.size w w'):Goes F F w w':=.same hb (fun _ h=>h)
theorem Goes.trans {F F' F'':List Nat} {w w1 w2:World} (h1:Goes F F' w w1) (h2:Goes F' F'' w1 w2):Goes F F'' w w2:=by
 refine⟨h2.os.trans h1.os,h2.tape.trans h1.tape,h2.output.trans h1.output,Nat.le_trans h1.size h2.size,fun k hk hF=> ?_,fun k hk=> ?_⟩
 · refine(h2.block k (Nat.lt_of_lt_of_le hk h1.size) (fun h=> ?_)).trans (h1.block k hk hF);rcases h1.new k h with h | h
   · exact hF h
   · omega
 · rcases h2.new k hk with h | h
   · exact h1.new k h
   · exact .inr (Nat.le_trans h1.size h)
theorem Goes.then_below {F F':List Nat} {w w1 w2:World} (h1:Goes F F' w w1) (hb:Below w1.heap.size w1 w2):Goes F F' w w2:=h1.trans (.of_below hb)
theorem Goes.after {F F':List Nat} {w w1 w2:World} (hb:Below w.heap.size w w1) (h1:Goes F F' w1 w2):Goes F F' w w2:=(Goes.of_below hb).trans h1
theorem Goes.below {F F':List Nat} {B:Nat} {w w':World} (h:Goes F F' w w') (hF:∀k∈F,B≤k) (hB:B≤w.heap.size):Below B w w':=
 ⟨h.os,h.tape,h.output,h.size,fun k hk=>h.block k (by omega) (fun hf=>by have:=hF k hf;omega)⟩
theorem Goes.setCell {F:List Nat} {w:World} (g i:Nat) (v:Value) (h:g∈F):Goes F F w (w.setCell ⟨g,i,none⟩ v):=
 ⟨rfl,rfl,rfl,by simp,fun k _ hk=>Below.heap_setCell w ⟨g,i,none⟩ v k (fun e=>hk (by rw[e];exact h)),fun _ h=> .inl h⟩
theorem Goes.grown {F:List Nat} {w w':World} {row:Option Nat} (hg:w.grownBy w' row) (h:∀k,row=some k→k∈F):Goes F F w w':=
 ⟨hg.os,hg.tape,hg.output,hg.size,fun k hk hF=>hg.block k hk (fun e=>hF (h k e.symm)),fun _ h=> .inl h⟩
theorem Goes.change {F F' F'':List Nat} {w w':World} (h:Goes F F' w w') (hn:∀k∈F'',k∈F∨w.heap.size≤k):Goes F F'' w w':=⟨h.os,h.tape,h.output,h.size,h.block,hn⟩
theorem Goes.apart {F F' G:List Nat} {w w':World} (h:Goes F F' w w') (ha:∀k∈F,k∉G) (hG:∀k∈G,k<w.heap.size):∀k∈F',k∉G:=fun k hk hg=>by
 rcases h.new k hk with h | h
 · exact ha k h hg
 · have:=hG k hg;omega
theorem Goes.keep {F F' G:List Nat} {w w':World} (h:Goes F F' w w') (ha:∀k∈F,k∉G) (hG:∀k∈G,k<w.heap.size):∀k∈G,w'.heap[k]? =w.heap[k]? :=fun k hk=>h.block k (hG k hk) (fun hf=>ha k hf hk)
def regL (r:SReg):List Value:=[.int .i64 r.n,.int .i64 r.p,.int .i64 r.seat.p,.int .i64 r.seat.d,.int .i64 r.seat.s,.int .i64 r.seat.h]
def regsL (rs:List SReg):List Value:=rs.flatMap regL
def partL (p:SPart):List Value:=[.int .i64 p.an,.int .i64 p.aq,.int .i64 p.rg,.int .i64 p.seat.p,.int .i64 p.seat.d,.int .i64 p.seat.s,.int .i64 p.seat.h]
def partsL (ps:List SPart):List Value:=ps.flatMap partL
def actL (a:SAct) (v:Value):List Value:=[.int .i64 a.an,.int .i64 a.aq,.int .i64 a.oc,.int .i64 a.dp,.float .f64 a.ex,.int .i64 a.pa,.int .i64 a.de,v]
theorem flat_length {α:Type} (f:α→List Value) (k:Nat) (hf:∀a,(f a).length=k) (l:List α):(l.flatMap f).length=l.length*k:=by
 induction l with
 | nil=>simp
 | cons a t ih=>simp only[List.flatMap_cons,List.length_append,List.length_cons,ih,hf];rw[Nat.add_mul];omega
theorem flat_at {α:Type} (f:α→List Value) (k:Nat) (hf:∀a,(f a).length=k) (l:List α) (i j:Nat) (hi:i<l.length) (hj:j<k):(l.flatMap f)[i*k+j]? =(f l[i])[j]? :=by
 induction l generalizing i with
 | nil=>simp at hi
 | cons a t ih=>
  rw[List.flatMap_cons]
  match i with
  | 0=>rw[List.getElem?_append_left (by rw[hf];omega)];simp
  | i+1=>
   rw[List.getElem?_append_right (by rw[hf,Nat.add_mul];omega),hf];have e:(i+1)*k+j - k=i*k+j:=by rw[Nat.add_mul];omega
   rw[e];simpa using ih i (by simpa using hi)
theorem flat_set {α:Type} (f:α→List Value) (k:Nat) (hf:∀a,(f a).length=k) (l:List α) (i j:Nat) (hi:i<l.length) (hj:j<k) (x:Value) (b:α) (hb:f b=(f l[i]).set j x):(l.flatMap f).set (i*k+j) x=(l.set i b).flatMap f:=by
 induction l generalizing i with
 | nil=>simp at hi
 | cons a t ih=>
  rw[List.flatMap_cons]
  match i with
  | 0=>
   simp only[Nat.zero_mul,Nat.zero_add,List.set_cons_zero,List.flatMap_cons];rw[List.set_append_left _ _ (by rw[hf];omega),hb];rfl
  | i+1=>
   rw[List.set_append_right _ _ (by rw[hf,Nat.add_mul];omega),hf];have e:(i+1)*k+j - k=i*k+j:=by rw[Nat.add_mul];omega
   rw[e];simp only[List.set_cons_succ,List.flatMap_cons];rw[ih i (by simpa using hi) (by simpa using hb)]
theorem flat_take {α:Type} (f:α→List Value) (k:Nat) (hf:∀a,(f a).length=k) (l:List α) (m:Nat):(l.flatMap f).take (m*k)=(l.take m).flatMap f:=by
 induction l generalizing m with
 | nil=>simp
 | cons a t ih=>
  match m with
  | 0=>simp
  | m+1=>
   rw[List.flatMap_cons,List.take_succ_cons,List.flatMap_cons,List.take_append,hf,List.take_of_length_le (by rw[hf,Nat.add_mul];omega)];have e:(m+1)*k - k=m*k:=by rw[Nat.add_mul];omega
   rw[e,ih]
theorem flat_drop {α:Type} (f:α→List Value) (k:Nat) (hf:∀a,(f a).length=k) (l:List α) (m:Nat):(l.flatMap f).drop (m*k)=(l.drop m).flatMap f:=by
 induction l generalizing m with
 | nil=>simp
 | cons a t ih=>
  match m with
  | 0=>simp
  | m+1=>
   rw[List.flatMap_cons,List.drop_succ_cons,List.drop_append,hf,List.drop_of_length_le (by rw[hf,Nat.add_mul];omega)];have e:(m+1)*k - k=m*k:=by rw[Nat.add_mul];omega
   rw[e,ih,List.nil_append]
theorem flat_one {α:Type} (f:α→List Value) (hf:∀a,∀u∈f a,u.oneCell'=true) (l:List α):∀u∈l.flatMap f,u.oneCell'=true:=by
 intro u hu;obtain⟨a,_,h⟩:=List.mem_flatMap.1 hu;exact hf a u h
theorem regL_len (r:SReg):(regL r).length=6:=rfl
theorem partL_len (p:SPart):(partL p).length=7:=rfl
theorem regL_one (r:SReg):∀u∈regL r,u.oneCell'=true:=by
 intro u hu;simp only[regL,List.mem_cons,List.not_mem_nil,or_false] at hu;rcases hu with rfl | rfl | rfl | rfl | rfl | rfl<;>rfl
theorem partL_one (p:SPart):∀u∈partL p,u.oneCell'=true:=by
 intro u hu;simp only[partL,List.mem_cons,List.not_mem_nil,or_false] at hu;rcases hu with rfl | rfl | rfl | rfl | rfl | rfl | rfl<;>rfl
abbrev actC (a:SAct) (v:Value):Array Value:= #[.int .i64 a.an,.int .i64 a.aq,.int .i64 a.oc,.int .i64 a.dp,.float .f64 a.ex,.int .i64 a.pa,.int .i64 a.de,v]
structure SLoc where
 sb:Nat
 av:Value
 pv:Value
 ab:List (Nat×Value)
def blocks (ab:List (Nat×Value)):List Nat:=ab.flatMap fun x=>x.1::x.2.ownBlock.toList
def SLoc.foot (L:SLoc):List Nat:=L.sb::(L.av.ownBlock.toList ++(L.pv.ownBlock.toList ++blocks L.ab))
abbrev ptrs (ab:List (Nat×Value)):List Value:=ab.map fun x=> .pointer (some ⟨x.1,0,none⟩)
structure StoreAt (L:SLoc) (S:Sto) (w:World):Prop where
 blk:Blk w L.sb #[S.node,S.next,L.av,L.pv]
 acts:w.ownsRow 0 159 1 L.av S.acts.length (ptrs L.ab)
 parts:w.ownsRow 0 61 7 L.pv S.parts.length (partsL S.parts)
 act:∀(i:Nat) (x:Nat×Value) (a:SAct),L.ab[i]? =some x→S.acts[i]? =some a→Blk w x.1 (actC a x.2)∧w.ownsRow 0 55 6 x.2 a.regs.length (regsL a.regs)
 once:L.foot.Nodup
theorem StoreAt.len {L:SLoc} {S:Sto} {w:World} (h:StoreAt L S w):L.ab.length=S.acts.length:=by
 have:=h.acts.1;simpa using this
theorem mem_blocks {ab:List (Nat×Value)} {k:Nat}:k∈blocks ab↔∃(i:Nat) (x:Nat×Value),ab[i]? =some x∧(k=x.1∨x.2.ownBlock=some k):=by
 unfold blocks;rw[List.mem_flatMap];constructor
 · rintro⟨x,hx,hk⟩;obtain⟨i,hi⟩:=List.getElem?_of_mem hx;refine⟨i,x,hi,?_⟩;rcases List.mem_cons.1 hk with h | h
   · exact .inl h
   · exact .inr (by simpa using h)
 · rintro⟨i,x,hi,hk⟩;refine⟨x,List.mem_of_getElem? hi,?_⟩;rcases hk with h | h
   · exact List.mem_cons.2 (.inl h)
   · exact List.mem_cons.2 (.inr (by simpa using h))
theorem SLoc.mem {L:SLoc} {k:Nat}:k∈L.foot↔k=L.sb∨L.av.ownBlock=some k∨L.pv.ownBlock=some k∨k∈blocks L.ab:=by
 unfold SLoc.foot;simp[List.mem_append]
theorem StoreAt.lt {L:SLoc} {S:Sto} {w:World} (h:StoreAt L S w):∀k∈L.foot,k<w.heap.size:=by
 intro k hk;rcases SLoc.mem.1 hk with rfl | hk | hk | hk
 · exact h.blk.lt
 · exact(h.acts.lt k hk).2
 · exact(h.parts.lt k hk).2
 · obtain⟨i,x,hi,hk⟩:=mem_blocks.1 hk;have hl:=(List.getElem?_eq_some_iff.1 hi).1;rw[h.len] at hl;obtain⟨h1,h2⟩:=h.act i x _ hi (List.getElem?_eq_getElem hl);rcases hk with rfl | hk
   · exact h1.lt
   · exact(h2.lt k hk).2
theorem StoreAt.keep {L:SLoc} {S:Sto} {w w':World} (h:StoreAt L S w) (hz:w.heap.size≤w'.heap.size) (he:∀k∈L.foot,w'.heap[k]? =w.heap[k]?):StoreAt L S w':=by
 refine⟨h.blk.same hz (he _ (SLoc.mem.2 (.inl rfl))),row_heap h.acts (fun k hk=>he k (SLoc.mem.2 (.inr (.inl hk)))),row_heap h.parts (fun k hk=>he k (SLoc.mem.2 (.inr (.inr (.inl hk))))),fun i x a hx ha=> ?_,h.once⟩;obtain⟨h1,h2⟩:=h.act i x a hx ha
 exact⟨h1.same hz (he _ (SLoc.mem.2 (.inr (.inr (.inr (mem_blocks.2 ⟨i,x,hx,.inl rfl⟩)))))),row_heap h2 (fun k hk=>he k (SLoc.mem.2 (.inr (.inr (.inr (mem_blocks.2 ⟨i,x,hx,.inr hk⟩))))))⟩
theorem StoreAt.below {L:SLoc} {S:Sto} {w w':World} (h:StoreAt L S w) (hb:Below w.heap.size w w'):StoreAt L S w':=h.keep hb.size (fun k hk=>hb.block k (h.lt k hk))
def SGoes (L:SLoc) (S':Sto) (w w':World):Prop:=∃L',L'.sb=L.sb∧StoreAt L' S' w'∧Goes L.foot L'.foot w w'
theorem SGoes.same {L:SLoc} {S:Sto} {w w':World} (h:StoreAt L S w) (hb:Below w.heap.size w w'):SGoes L S w w':=⟨L,rfl,h.below hb,.of_below hb⟩
theorem SGoes.after {L:SLoc} {S:Sto} {w w1 w':World} (hb:Below w.heap.size w w1) (h:SGoes L S w1 w'):SGoes L S w w':=by
 obtain⟨L',h1,h2,h3⟩:=h;exact⟨L',h1,h2,.after hb h3⟩
theorem SGoes.then_below {L:SLoc} {S:Sto} {w w1 w':World} (h:SGoes L S w w1) (hb:Below w1.heap.size w1 w'):SGoes L S w w':=by
 obtain⟨L',h1,h2,h3⟩:=h;exact⟨L',h1,h2.below hb,h3.then_below hb⟩
theorem StoreAt.ne_act {L:SLoc} {S:Sto} {w:World} (h:StoreAt L S w) {i:Nat} {x:Nat×Value} (hx:L.ab[i]? =some x):x.1≠L.sb∧L.av.ownBlock≠some x.1∧L.pv.ownBlock≠some x.1∧x.2.ownBlock≠some x.1∧x.2.ownBlock≠some L.sb∧(∀k,x.2.ownBlock=some k→L.av.ownBlock≠some k∧L.pv.ownBlock≠some k):=by
 have ho:=h.once;unfold SLoc.foot at ho;rw[List.nodup_cons,List.nodup_append,List.nodup_append] at ho;obtain⟨h1,_,⟨_,h3,h4⟩,h5⟩:=ho;have hb1:x.1∈blocks L.ab:=mem_blocks.2 ⟨i,x,hx,.inl rfl⟩;have hb2:∀k,x.2.ownBlock=some k→k∈blocks L.ab:=fun k hk=>mem_blocks.2 ⟨i,x,hx,.inr hk⟩
 have hself:x.2.ownBlock≠some x.1:=by
  intro e;have hm:=List.mem_of_getElem? hx;unfold blocks at h3;have hs:(x.1::x.2.ownBlock.toList).Sublist (L.ab.flatMap fun x=>x.1::x.2.ownBlock.toList):=by
   obtain⟨l1,l2,hl⟩:=List.append_of_mem hm;rw[hl,List.flatMap_append,List.flatMap_cons];exact(List.sublist_append_left _ _).trans (List.sublist_append_right _ _)
  have hn:=h3.sublist hs;rw[e] at hn;simp at hn
 refine⟨fun e=>h1 ?_,fun e=> ?_,fun e=> ?_,hself,fun e=>h1 ?_,fun k hk=>⟨fun e=> ?_,fun e=> ?_⟩⟩
 · rw[←e];simp[hb1]
 · exact h5 x.1 (by simp[e]) x.1 (by simp[hb1]) rfl
 · exact h4 x.1 (by simp[e]) x.1 hb1 rfl
 · have:=hb2 _ e;simp[this]
 · exact h5 k (by simp[e]) k (by simp[hb2 k hk]) rfl
 · exact h4 k (by simp[e]) k (hb2 k hk) rfl
theorem StoreAt.ne_top {L:SLoc} {S:Sto} {w:World} (h:StoreAt L S w):L.av.ownBlock≠some L.sb∧L.pv.ownBlock≠some L.sb∧(∀k,L.av.ownBlock=some k→L.pv.ownBlock≠some k):=by
 have ho:=h.once;unfold SLoc.foot at ho;rw[List.nodup_cons,List.nodup_append] at ho;obtain⟨h1,_,_,h5⟩:=ho;exact⟨fun e=>h1 (by simp[e]),fun e=>h1 (by simp[e]),fun k hk e=>h5 k (by simp[hk]) k (by simp[e]) rfl⟩
theorem StoreAt.ne_two {L:SLoc} {S:Sto} {w:World} (h:StoreAt L S w) {i j:Nat} {x y:Nat×Value} (hx:L.ab[i]? =some x) (hy:L.ab[j]? =some y) (hij:i≠j):∀k,(k=x.1∨x.2.ownBlock=some k)→¬(k=y.1∨y.2.ownBlock=some k):=by
 have ho:=h.once;unfold SLoc.foot at ho;rw[List.nodup_cons,List.nodup_append,List.nodup_append] at ho;have h3:=ho.2.2.1.2.1;clear ho;intro k hk1 hk2;have key:∀(ab:List (Nat×Value)) (i j:Nat),(blocks ab).Nodup→ab[i]? =some x→ab[j]? =some y→i<j→False:=by
  intro ab
  induction ab with
  | nil=>intro i j _ h;simp at h
  | cons z t ih=>
   intro i j hn h1 h2 hlt;unfold blocks at hn;rw[List.flatMap_cons,List.nodup_append] at hn
   match i,j,hlt with
   | 0,j+1,_=>
    simp at h1 h2;subst h1;refine hn.2.2 k ?_ k ?_ rfl
    · rcases hk1 with h | h
      · exact List.mem_cons.2 (.inl h)
      · exact List.mem_cons.2 (.inr (by simpa using h))
    · exact mem_blocks.2 ⟨j,y,h2,hk2⟩
   | i+1,j+1,hlt=>exact ih i j hn.2.1 (by simpa using h1) (by simpa using h2) (by omega)
 have key2:∀(ab:List (Nat×Value)) (i j:Nat),(blocks ab).Nodup→ab[i]? =some x→ab[j]? =some y→j<i→False:=by
  intro ab
  induction ab with
  | nil=>intro i j _ h;simp at h
  | cons z t ih=>
   intro i j hn h1 h2 hlt;unfold blocks at hn;rw[List.flatMap_cons,List.nodup_append] at hn
   match i,j,hlt with
   | i+1,0,_=>
    simp at h1 h2;subst h2;refine hn.2.2 k ?_ k ?_ rfl
    · rcases hk2 with h | h
      · exact List.mem_cons.2 (.inl h)
      · exact List.mem_cons.2 (.inr (by simpa using h))
    · exact mem_blocks.2 ⟨i,x,h1,hk1⟩
   | i+1,j+1,hlt=>exact ih i j hn.2.1 (by simpa using h1) (by simpa using h2) (by omega)
 rcases Nat.lt_or_gt_of_ne hij with h | h
 · exact key _ i j h3 hx hy h
 · exact key2 _ i j h3 hx hy h
def oix:Option Nat→Int
 | some i=>i
 | none=> -1
def RegC (w:World) (b o:Nat) (r:SReg):Prop:=w.cell? ⟨b,o,none⟩=some (.int .i64 r.n)∧w.cell? ⟨b,o+1,none⟩=some (.int .i64 r.p)∧w.cell? ⟨b,o+2,none⟩=some (.int .i64 r.seat.p)∧w.cell? ⟨b,o+3,none⟩=some (.int .i64 r.seat.d)∧w.cell? ⟨b,o+4,none⟩=some (.int .i64 r.seat.s)∧w.cell? ⟨b,o+5,none⟩=some (.int .i64 r.seat.h)
theorem RegC.below {w w':World} {b o:Nat} {r:SReg} (h:RegC w b o r) (hb:Below w.heap.size w w') (hl:b<w.heap.size):RegC w' b o r:=
 ⟨(hb.cell (p:=⟨b,o,none⟩) hl).trans h.1,(hb.cell (p:=⟨b,o+1,none⟩) hl).trans h.2.1,(hb.cell (p:=⟨b,o+2,none⟩) hl).trans h.2.2.1,(hb.cell (p:=⟨b,o+3,none⟩) hl).trans h.2.2.2.1,(hb.cell (p:=⟨b,o+4,none⟩) hl).trans h.2.2.2.2.1,(hb.cell (p:=⟨b,o+5,none⟩) hl).trans h.2.2.2.2.2⟩
def PartC (w:World) (b o:Nat) (p:SPart):Prop:=w.cell? ⟨b,o,none⟩=some (.int .i64 p.an)∧w.cell? ⟨b,o+1,none⟩=some (.int .i64 p.aq)∧w.cell? ⟨b,o+2,none⟩=some (.int .i64 p.rg)∧w.cell? ⟨b,o+3,none⟩=some (.int .i64 p.seat.p)∧w.cell? ⟨b,o+4,none⟩=some (.int .i64 p.seat.d)∧w.cell? ⟨b,o+5,none⟩=some (.int .i64 p.seat.s)∧w.cell? ⟨b,o+6,none⟩=some (.int .i64 p.seat.h)
theorem PartC.below {w w':World} {b o:Nat} {p:SPart} (h:PartC w b o p) (hb:Below w.heap.size w w') (hl:b<w.heap.size):PartC w' b o p:=
 ⟨(hb.cell (p:=⟨b,o,none⟩) hl).trans h.1,(hb.cell (p:=⟨b,o+1,none⟩) hl).trans h.2.1,(hb.cell (p:=⟨b,o+2,none⟩) hl).trans h.2.2.1,(hb.cell (p:=⟨b,o+3,none⟩) hl).trans h.2.2.2.1,(hb.cell (p:=⟨b,o+4,none⟩) hl).trans h.2.2.2.2.1,(hb.cell (p:=⟨b,o+5,none⟩) hl).trans h.2.2.2.2.2.1,(hb.cell (p:=⟨b,o+6,none⟩) hl).trans h.2.2.2.2.2.2⟩
theorem reg_row {w : World} {B : Nat} {T : TypeId} {v : Value} {n : Nat} {rs : List SReg} (h : w.ownsRow B T 6 v n (regsL rs)) :
    ∃a cap,v=.slice a n cap∧rs.length=n∧(0<n→∃g,a=some ⟨g,0,none⟩∧g<w.heap.size∧(∀i,w.frozen? ⟨g,i,none⟩=false)∧∀(j:Nat) (r:SReg),rs[j]? =some r→RegC w g (j*6) r):=by
 have hn:rs.length=n:=by have:=h.1;unfold regsL at this;rw[flat_length _ 6 regL_len] at this;omega
 obtain⟨a,cap,rfl⟩:=row_slice h;refine⟨a,cap,rfl,hn,fun h0=> ?_⟩;obtain⟨g,cap',he,_,_,hg,hc,hf⟩:=row_form h h0;obtain⟨rfl,_⟩:a=some ⟨g,0,none⟩∧cap=cap':=by simpa using he
 refine⟨g,rfl,hg,hf,fun j r hr=> ?_⟩;obtain⟨hj,rfl⟩:=List.getElem?_eq_some_iff.1 hr;have hat:=fun k hk=>flat_at regL 6 regL_len rs j k hj hk
 refine⟨hc _ _ ?_,hc _ _ ?_,hc _ _ ?_,hc _ _ ?_,hc _ _ ?_,hc _ _ ?_⟩
 · exact hat 0 (by decide)
 · exact hat 1 (by decide)
 · exact hat 2 (by decide)
 · exact hat 3 (by decide)
 · exact hat 4 (by decide)
 · exact hat 5 (by decide)
theorem part_row {w : World} {B : Nat} {T : TypeId} {v : Value} {n : Nat} {ps : List SPart} (h : w.ownsRow B T 7 v n (partsL ps)) :
    ∃a cap,v=.slice a n cap∧ps.length=n∧(0<n→∃g,a=some ⟨g,0,none⟩∧g<w.heap.size∧(∀i,w.frozen? ⟨g,i,none⟩=false)∧∀(j:Nat) (p:SPart),ps[j]? =some p→PartC w g (j*7) p):=by
 have hn:ps.length=n:=by have:=h.1;unfold partsL at this;rw[flat_length _ 7 partL_len] at this;omega
 obtain⟨a,cap,rfl⟩:=row_slice h;refine⟨a,cap,rfl,hn,fun h0=> ?_⟩;obtain⟨g,cap',he,_,_,hg,hc,hf⟩:=row_form h h0;obtain⟨rfl,_⟩:a=some ⟨g,0,none⟩∧cap=cap':=by simpa using he
 refine⟨g,rfl,hg,hf,fun j r hr=> ?_⟩;obtain⟨hj,rfl⟩:=List.getElem?_eq_some_iff.1 hr;have hat:=fun k hk=>flat_at partL 7 partL_len ps j k hj hk
 refine⟨hc _ _ ?_,hc _ _ ?_,hc _ _ ?_,hc _ _ ?_,hc _ _ ?_,hc _ _ ?_,hc _ _ ?_⟩
 · exact hat 0 (by decide)
 · exact hat 1 (by decide)
 · exact hat 2 (by decide)
 · exact hat 3 (by decide)
 · exact hat 4 (by decide)
 · exact hat 5 (by decide)
 · exact hat 6 (by decide)
theorem ptr_row {w : World} {B : Nat} {T : TypeId} {v : Value} {n : Nat} {ab : List (Nat × Value)} (h : w.ownsRow B T 1 v n (ptrs ab)) :
    ∃a cap,v=.slice a n cap∧ab.length=n∧(0<n→∃g,a=some ⟨g,0,none⟩∧g<w.heap.size∧(∀i,w.frozen? ⟨g,i,none⟩=false)∧∀(j:Nat) (x:Nat×Value),ab[j]? =some x→w.cell? ⟨g,j,none⟩=some (.pointer (some ⟨x.1,0,none⟩))):=by
 have hn:ab.length=n:=by have:=h.1;simpa using this
 obtain⟨a,cap,rfl⟩:=row_slice h;refine⟨a,cap,rfl,hn,fun h0=> ?_⟩;obtain⟨g,cap',he,_,_,hg,hc,hf⟩:=row_form h h0;obtain⟨rfl,_⟩:a=some ⟨g,0,none⟩∧cap=cap':=by simpa using he
 exact⟨g,rfl,hg,hf,fun j x hx=>hc j _ (by rw[List.getElem?_map,hx];rfl)⟩
theorem find_hit {α:Type} {l:List α} {q:α→Bool} {k:Nat} (hk:k<l.length) (hn:∀(j:Nat) (h:j<l.length),j<k→q l[j]=false) (hq:q l[k]=true):l.findIdx? q=some k:=by
 rw[List.findIdx?_eq_some_iff_getElem];exact⟨hk,hq,fun j hj=>by rw[hn j (by omega) hj];simp⟩
theorem find_miss {α:Type} {l:List α} {q:α→Bool} (hn:∀(j:Nat) (h:j<l.length),q l[j]=false):l.findIdx? q=none:=by
 rw[List.findIdx?_eq_none_iff];intro x hx;obtain⟨j,hj,rfl⟩:=List.getElem_of_mem hx;exact hn j hj
theorem find_any {α:Type} (l:List α) (q:α→Bool):decide (0≤oix (l.findIdx? q))=l.any q:=by
 cases h:l.findIdx? q with
 | none=>
  have:=List.findIdx?_eq_none_iff.1 h;rw[show l.any q=false from by rw[List.any_eq_false];intro x hx;simp[this x hx]];rfl
 | some i=>
  obtain⟨hi,hq,_⟩:=List.findIdx?_eq_some_iff_getElem.1 h;rw[show l.any q=true from List.any_eq_true.2 ⟨_,List.getElem_mem hi,hq⟩];simp[oix]
theorem foot_nodup {L:SLoc}:L.foot.Nodup↔L.av.ownBlock≠some L.sb∧L.pv.ownBlock≠some L.sb∧L.sb∉blocks L.ab∧(blocks L.ab).Nodup∧(∀k,L.av.ownBlock=some k→L.pv.ownBlock≠some k∧k∉blocks L.ab)∧(∀k,L.pv.ownBlock=some k→k∉blocks L.ab):=by
 unfold SLoc.foot
 cases ha:L.av.ownBlock with
 | none=>
  cases hp:L.pv.ownBlock with
  | none=>simp[List.nodup_cons]
  | some q => simp [List.nodup_cons]; constructor
              · rintro⟨⟨h1,h2⟩,h3,h4⟩;exact⟨fun e=>h1 e.symm,h2,h4,h3⟩
              · rintro⟨h1,h2,h3,h4⟩;exact⟨⟨fun e=>h1 e.symm,h2⟩,h4,h3⟩
 | some p=>
  cases hp:L.pv.ownBlock with
  | none => simp [List.nodup_cons]; constructor
            · rintro⟨⟨h1,h2⟩,h3,h4⟩;exact⟨fun e=>h1 e.symm,h2,h4,h3⟩
            · rintro⟨h1,h2,h3,h4⟩;exact⟨⟨fun e=>h1 e.symm,h2⟩,h4,h3⟩
  | some q => simp [List.nodup_cons]; constructor
              · rintro⟨⟨h1,h2,h3⟩,⟨h4,h5⟩,h6,h7⟩;exact⟨fun e=>h1 e.symm,fun e=>h2 e.symm,h3,h7,⟨fun e=>h4 e.symm,h5⟩,h6⟩
              · rintro⟨h1,h2,h3,h4,⟨h5,h6⟩,h7⟩;exact⟨⟨fun e=>h1 e.symm,fun e=>h2 e.symm,h3⟩,⟨fun e=>h5 e.symm,h6⟩,h7,h4⟩
def Moved (F:List Nat) (v v':Value):Prop:=v'.ownBlock=v.ownBlock∨∃m,v'.ownBlock=some m∧m∉F
theorem once_pv {L:SLoc} {v':Value} (h:L.foot.Nodup) (hm:Moved L.foot L.pv v'):(SLoc.mk L.sb L.av v' L.ab).foot.Nodup:=by
 rw[foot_nodup] at h⊢;obtain⟨h1,h2,h3,h4,h5,h6⟩:=h;rcases hm with e | ⟨m,e,hF⟩
 · exact⟨h1,by rw[e];exact h2,h3,h4,fun k hk=>⟨by rw[e];exact(h5 k hk).1,(h5 k hk).2⟩,fun k hk=>h6 k (by rw[←e];exact hk)⟩
 · rw[SLoc.mem] at hF;refine⟨h1,?_,h3,h4,fun k hk=>⟨?_,(h5 k hk).2⟩,fun k hk=> ?_⟩
   · rw[e];intro e';injection e' with e';exact hF (.inl e')
   · rw[e];intro e';injection e' with e';subst e';exact hF (.inr (.inl hk))
   · rw[e] at hk;injection hk with hk;subst hk;exact fun hb=>hF (.inr (.inr (.inr hb)))
theorem mem_pv {L:SLoc} {v':Value} {n:Nat} (hm:v'.ownBlock=L.pv.ownBlock∨∃m,v'.ownBlock=some m∧n≤m):∀k∈(SLoc.mk L.sb L.av v' L.ab).foot,k∈L.foot∨n≤k:=by
 intro k hk;rw[SLoc.mem] at hk⊢;rcases hk with h | h | h | h
 · exact .inl (.inl h)
 · exact .inl (.inr (.inl h))
 · rcases hm with e | ⟨m,e,hl⟩
   · exact .inl (.inr (.inr (.inl (e.symm.trans h))))
   · rw[e] at h;injection h with h;subst h;exact .inr hl
 · exact .inl (.inr (.inr (.inr h)))
theorem blocks_nil:blocks []=[]:=rfl
theorem blocks_cons (x:Nat×Value) (t:List (Nat×Value)):blocks (x::t)=(x.1::x.2.ownBlock.toList) ++blocks t:=rfl
theorem blocks_append (a b:List (Nat×Value)):blocks (a ++b)=blocks a ++blocks b:=by unfold blocks;exact List.flatMap_append
theorem blocks_sub {a b:List (Nat×Value)} (h:a.Sublist b):(blocks a).Sublist (blocks b):=by
 induction h with
 | slnil=>exact List.Sublist.refl _
 | cons x _ ih=>rw[blocks_cons];exact ih.trans (List.sublist_append_right _ _)
 | cons_cons x _ ih=>rw[blocks_cons,blocks_cons];exact ih.append_left _
theorem blocks_same {ab:List (Nat×Value)} {i:Nat} {x:Nat×Value} {v':Value} (hx:ab[i]? =some x) (e:v'.ownBlock=x.2.ownBlock):blocks (ab.set i (x.1,v'))=blocks ab:=by
 induction ab generalizing i with
 | nil=>simp at hx
 | cons y t ih=>
  match i with
  | 0=>simp at hx;subst hx;rw[List.set_cons_zero,blocks_cons,blocks_cons,e]
  | i+1=>rw[List.set_cons_succ,blocks_cons,blocks_cons,ih (by simpa using hx)]
theorem mem_blocks_set {ab:List (Nat×Value)} {i:Nat} {x:Nat×Value} {v':Value} {k:Nat} (hx:ab[i]? =some x) (hk:k∈blocks (ab.set i (x.1,v'))):k∈blocks ab∨v'.ownBlock=some k:=by
 obtain⟨j,y,hy,hk⟩:=mem_blocks.1 hk;rw[List.getElem?_set] at hy;split at hy
 · rename_i hij
   split at hy
   · injection hy with hy
     subst hy;rcases hk with rfl | hk
     · exact .inl (mem_blocks.2 ⟨i,x,hx,.inl rfl⟩)
     · exact .inr hk
   · cases hy
 · exact .inl (mem_blocks.2 ⟨j,y,hy,hk⟩)
theorem blocks_fresh {ab:List (Nat×Value)} {i:Nat} {x:Nat×Value} {v':Value} {m:Nat} (hx:ab[i]? =some x) (e:v'.ownBlock=some m) (hm:m∉blocks ab) (h:(blocks ab).Nodup):(blocks (ab.set i (x.1,v'))).Nodup:=by
 induction ab generalizing i with
 | nil=>simp at hx
 | cons y t ih=>
  rw[blocks_cons] at h hm;rw[List.nodup_append] at h;obtain⟨h1,h2,h3⟩:=h
  match i with
  | 0=>
   simp at hx;subst hx;rw[List.set_cons_zero,blocks_cons,e,List.nodup_append];refine⟨?_,h2,?_⟩
   · simp;intro e';exact hm (by simp[e'])
   · intro a ha b hb hab;subst hab;rcases List.mem_cons.1 ha with rfl | ha
     · exact h3 _ (by simp) _ hb rfl
     · simp at ha;subst ha;exact hm (by simp[hb])
  | i+1=>
   rw[List.set_cons_succ,blocks_cons,List.nodup_append];refine⟨h1,ih (by simpa using hx) (fun hb=>hm (by simp[hb])) h2,fun a ha b hb hab=> ?_⟩;subst hab;rcases mem_blocks_set (by simpa using hx) hb with hb | hb
   · exact h3 _ ha _ hb rfl
   · rw[e] at hb;injection hb with hb;subst hb;exact hm (by rw[List.mem_append];exact .inl ha)
theorem once_rv {L:SLoc} {i:Nat} {x:Nat×Value} {v':Value} (h:L.foot.Nodup) (hx:L.ab[i]? =some x) (hm:Moved L.foot x.2 v'):(SLoc.mk L.sb L.av L.pv (L.ab.set i (x.1,v'))).foot.Nodup:=by
 rcases hm with e | ⟨m,e,hF⟩
 · rw[foot_nodup] at h⊢;show _∧_∧L.sb∉blocks (L.ab.set i (x.1,v'))∧(blocks (L.ab.set i (x.1,v'))).Nodup∧(∀k,_→_∧k∉blocks (L.ab.set i (x.1,v')))∧(∀k,_→k∉blocks (L.ab.set i (x.1,v')))
   rw[blocks_same hx e];exact h
 · rw[SLoc.mem] at hF;rw[foot_nodup] at h⊢;obtain⟨h1,h2,h3,h4,h5,h6⟩:=h;have hne:∀k,k∉blocks L.ab→m≠k→k∉blocks (L.ab.set i (x.1,v')):=fun k hk hmk hb=>by
    rcases mem_blocks_set hx hb with hb | hb
    · exact hk hb
    · rw[e] at hb;injection hb with hb;exact hmk hb
   refine⟨h1,h2,hne _ h3 (fun e=>hF (.inl e)),blocks_fresh hx e (fun hb=>hF (.inr (.inr (.inr hb)))) h4,fun k hk=>⟨(h5 k hk).1,hne _ (h5 k hk).2 (fun e=>hF (.inr (.inl (by rw[hk,e]))))⟩,fun k hk=>hne _ (h6 k hk) (fun e=>hF (.inr (.inr (.inl (by rw[hk,e])))))⟩
theorem mem_rv {L:SLoc} {i:Nat} {x:Nat×Value} {v':Value} {n:Nat} (hx:L.ab[i]? =some x) (hm:v'.ownBlock=x.2.ownBlock∨∃m,v'.ownBlock=some m∧n≤m):∀k∈(SLoc.mk L.sb L.av L.pv (L.ab.set i (x.1,v'))).foot,k∈L.foot∨n≤k:=by
 intro k hk;rw[SLoc.mem] at hk⊢;rcases hk with h | h | h | h
 · exact .inl (.inl h)
 · exact .inl (.inr (.inl h))
 · exact .inl (.inr (.inr (.inl h)))
 · rcases mem_blocks_set hx h with h | h
   · exact .inl (.inr (.inr (.inr h)))
   · rcases hm with e | ⟨m,e,hl⟩
     · exact .inl (.inr (.inr (.inr (mem_blocks.2 ⟨i,x,hx,.inr (e.symm.trans h)⟩))))
     · rw[e] at h;injection h with h;subst h;exact .inr hl
theorem once_add {L:SLoc} {av':Value} {m:Nat} (h:L.foot.Nodup) (hm:m∉L.foot) (ha:av'.ownBlock=L.av.ownBlock∨∃k,av'.ownBlock=some k∧k∉L.foot∧k≠m):(SLoc.mk L.sb av' L.pv (L.ab ++ [(m,.slice none 0 0)])).foot.Nodup:=by
 rw[SLoc.mem] at hm;rw[foot_nodup] at h⊢;obtain⟨h1,h2,h3,h4,h5,h6⟩:=h;have hb:∀k,k∈blocks (L.ab ++ [(m,.slice none 0 0)])↔k∈blocks L.ab∨k=m:=fun k=>by
  rw[blocks_append,List.mem_append];simp[blocks_cons,blocks_nil,Value.ownBlock]
 have hav:av'.ownBlock≠some L.sb∧∀k,av'.ownBlock=some k→L.pv.ownBlock≠some k∧k∉blocks L.ab∧k≠m:=by
  rcases ha with e | ⟨q,e,hF,hq⟩
  · rw[e];exact⟨h1,fun k hk=>⟨(h5 k hk).1,(h5 k hk).2,fun e=>hm (.inr (.inl (by rw[hk,e])))⟩⟩
  · rw[SLoc.mem] at hF;rw[e];refine⟨fun e'=>hF (.inl (by injection e')),fun k hk=> ?_⟩;injection hk with hk
    subst hk;exact⟨fun e'=>hF (.inr (.inr (.inl e'))),fun hb=>hF (.inr (.inr (.inr hb))),hq⟩
 refine⟨hav.1,h2,?_,?_,fun k hk=>⟨(hav.2 k hk).1,?_⟩,fun k hk=> ?_⟩
 · rw[hb];rintro(h | h);exact h3 h;exact hm (.inl h.symm)
 · show(blocks (L.ab ++ [(m,.slice none 0 0)])).Nodup
   rw[blocks_append,List.nodup_append];refine⟨h4,by simp[blocks_cons,blocks_nil,Value.ownBlock],fun a hab0 b hb' hab=> ?_⟩;simp[blocks_cons,blocks_nil,Value.ownBlock] at hb';subst hb' hab;exact hm (.inr (.inr (.inr hab0)))
 · rw[hb];rintro(h | h);exact(hav.2 k hk).2.1 h;exact(hav.2 k hk).2.2 h
 · rw[hb];rintro(h | h);exact h6 k hk h;exact hm (.inr (.inr (.inl (by rw[←h];exact hk))))
theorem mem_add {L:SLoc} {av':Value} {m n:Nat} (hm:n≤m) (ha:av'.ownBlock=L.av.ownBlock∨∃k,av'.ownBlock=some k∧n≤k):∀k∈(SLoc.mk L.sb av' L.pv (L.ab ++ [(m,.slice none 0 0)])).foot,k∈L.foot∨n≤k:=by
 intro k hk;rw[SLoc.mem] at hk⊢;rcases hk with h | h | h | h
 · exact .inl (.inl h)
 · rcases ha with e | ⟨q,e,hl⟩
   · exact .inl (.inr (.inl (e.symm.trans h)))
   · have h':av'.ownBlock=some k:=h;rw[e] at h';injection h' with h';subst h';exact .inr hl
 · exact .inl (.inr (.inr (.inl h)))
 · have h':k∈blocks (L.ab ++ [(m,.slice none 0 0)]):=h;rw[blocks_append,List.mem_append] at h';rcases h' with h' | h'
   · exact .inl (.inr (.inr (.inr h')))
   · simp[blocks_cons,blocks_nil,Value.ownBlock] at h';subst h';exact .inr hm
theorem once_del {L:SLoc} {av':Value} (i:Nat) (h:L.foot.Nodup) (ha:av'.ownBlock=L.av.ownBlock):(SLoc.mk L.sb av' L.pv (L.ab.eraseIdx i)).foot.Nodup:=by
 rw[foot_nodup] at h⊢;obtain⟨h1,h2,h3,h4,h5,h6⟩:=h;have hs:(blocks (L.ab.eraseIdx i)).Sublist (blocks L.ab):=blocks_sub (List.eraseIdx_sublist _ _);exact⟨by rw[ha];exact h1,h2,fun hb=>h3 (hs.subset hb),h4.sublist hs,fun k hk=>⟨(h5 k (by rw[←ha];exact hk)).1,fun hb=>(h5 k (by rw[←ha];exact hk)).2 (hs.subset hb)⟩,fun k hk hb=>h6 k hk (hs.subset hb)⟩
theorem mem_del {L:SLoc} {av':Value} (i:Nat) (ha:av'.ownBlock=L.av.ownBlock):∀k∈(SLoc.mk L.sb av' L.pv (L.ab.eraseIdx i)).foot,k∈L.foot:=by
 intro k hk;rw[SLoc.mem] at hk⊢;have hs:(blocks (L.ab.eraseIdx i)).Sublist (blocks L.ab):=blocks_sub (List.eraseIdx_sublist _ _);rcases hk with h | h | h | h
 · exact .inl h
 · exact .inr (.inl (ha.symm.trans h))
 · exact .inr (.inr (.inl h))
 · exact .inr (.inr (.inr (hs.subset h)))
def putSeat4 (w:World) (g o:Nat) (t:MSeat):World:=(((w.setCell ⟨g,o,none⟩ (.int .i64 t.p)).setCell ⟨g,o+1,none⟩ (.int .i64 t.d)).setCell ⟨g,o+2,none⟩ (.int .i64 t.s)).setCell ⟨g,o+3,none⟩ (.int .i64 t.h)
theorem Goes.seat {F:List Nat} {w:World} (g o:Nat) (t:MSeat) (h:g∈F):Goes F F w (putSeat4 w g o t):=
 (((Goes.setCell g o _ h).trans (.setCell g _ _ h)).trans (.setCell g _ _ h)).trans (.setCell g _ _ h)
theorem part_seat {w:World} {B:Nat} {T:TypeId} {g cap n:Nat} {ps:List SPart} (h:w.ownsRow B T 7 (.slice (some ⟨g,0,none⟩) n cap) n (partsL ps)) (i:Nat) (p:SPart) (hp:ps[i]? =some p) (t:MSeat):(putSeat4 w g (i*7+3) t).ownsRow B T 7 (.slice (some ⟨g,0,none⟩) n cap) n (partsL (ps.set i {p with seat:=t})):=by
 have hn:ps.length=n:=by have:=h.1;unfold partsL at this;rw[flat_length _ 7 partL_len] at this;omega
 obtain⟨hi,rfl⟩:=List.getElem?_eq_some_iff.1 hp;have hb:∀j,j<7→i*7+j<n*7:=fun j hj=>by omega
 have h1:=row_set h (i*7+3) (.int .i64 t.p) (hb 3 (by decide));rw[show(partsL ps).set (i*7+3) (.int .i64 t.p)=partsL (ps.set i {ps[i] with seat:=⟨t.p,ps[i].seat.d,ps[i].seat.s,ps[i].seat.h⟩}) from flat_set partL 7 partL_len ps i 3 hi (by decide) _ _ rfl] at h1;have h2:=row_set h1 (i*7+4) (.int .i64 t.d) (hb 4 (by decide))
 rw[show(partsL (ps.set i {ps[i] with seat:=⟨t.p,ps[i].seat.d,ps[i].seat.s,ps[i].seat.h⟩})).set (i*7+4) (.int .i64 t.d)=partsL ((ps.set i {ps[i] with seat:=⟨t.p,ps[i].seat.d,ps[i].seat.s,ps[i].seat.h⟩}).set i {ps[i] with seat:=⟨t.p,t.d,ps[i].seat.s,ps[i].seat.h⟩}) from flat_set partL 7 partL_len _ i 4 (by simpa using hi) (by decide) _ _ (by simp[partL]),List.set_set] at h2
 have h3:=row_set h2 (i*7+5) (.int .i64 t.s) (hb 5 (by decide))
 rw[show(partsL (ps.set i {ps[i] with seat:=⟨t.p,t.d,ps[i].seat.s,ps[i].seat.h⟩})).set (i*7+5) (.int .i64 t.s)=partsL ((ps.set i {ps[i] with seat:=⟨t.p,t.d,ps[i].seat.s,ps[i].seat.h⟩}).set i {ps[i] with seat:=⟨t.p,t.d,t.s,ps[i].seat.h⟩}) from flat_set partL 7 partL_len _ i 5 (by simpa using hi) (by decide) _ _ (by simp[partL]),List.set_set] at h3
 have h4:=row_set h3 (i*7+6) (.int .i64 t.h) (hb 6 (by decide));rw[show(partsL (ps.set i {ps[i] with seat:=⟨t.p,t.d,t.s,ps[i].seat.h⟩})).set (i*7+6) (.int .i64 t.h)=partsL ((ps.set i {ps[i] with seat:=⟨t.p,t.d,t.s,ps[i].seat.h⟩}).set i {ps[i] with seat:=t}) from flat_set partL 7 partL_len _ i 6 (by simpa using hi) (by decide) _ _ (by simp[partL]),List.set_set] at h4;exact h4
theorem reg_seat {w:World} {B:Nat} {T:TypeId} {g cap n:Nat} {ps:List SReg} (h:w.ownsRow B T 6 (.slice (some ⟨g,0,none⟩) n cap) n (regsL ps)) (i:Nat) (p:SReg) (hp:ps[i]? =some p) (t:MSeat):(putSeat4 w g (i*6+2) t).ownsRow B T 6 (.slice (some ⟨g,0,none⟩) n cap) n (regsL (ps.set i {p with seat:=t})):=by
 have hn:ps.length=n:=by have:=h.1;unfold regsL at this;rw[flat_length _ 6 regL_len] at this;omega
 obtain⟨hi,rfl⟩:=List.getElem?_eq_some_iff.1 hp;have hb:∀j,j<6→i*6+j<n*6:=fun j hj=>by omega
 have h1:=row_set h (i*6+2) (.int .i64 t.p) (hb 2 (by decide));rw[show(regsL ps).set (i*6+2) (.int .i64 t.p)=regsL (ps.set i {ps[i] with seat:=⟨t.p,ps[i].seat.d,ps[i].seat.s,ps[i].seat.h⟩}) from flat_set regL 6 regL_len ps i 2 hi (by decide) _ _ rfl] at h1;have h2:=row_set h1 (i*6+3) (.int .i64 t.d) (hb 3 (by decide))
 rw[show(regsL (ps.set i {ps[i] with seat:=⟨t.p,ps[i].seat.d,ps[i].seat.s,ps[i].seat.h⟩})).set (i*6+3) (.int .i64 t.d)=regsL ((ps.set i {ps[i] with seat:=⟨t.p,ps[i].seat.d,ps[i].seat.s,ps[i].seat.h⟩}).set i {ps[i] with seat:=⟨t.p,t.d,ps[i].seat.s,ps[i].seat.h⟩}) from flat_set regL 6 regL_len _ i 3 (by simpa using hi) (by decide) _ _ (by simp[regL]),List.set_set] at h2
 have h3:=row_set h2 (i*6+4) (.int .i64 t.s) (hb 4 (by decide))
 rw[show(regsL (ps.set i {ps[i] with seat:=⟨t.p,t.d,ps[i].seat.s,ps[i].seat.h⟩})).set (i*6+4) (.int .i64 t.s)=regsL ((ps.set i {ps[i] with seat:=⟨t.p,t.d,ps[i].seat.s,ps[i].seat.h⟩}).set i {ps[i] with seat:=⟨t.p,t.d,t.s,ps[i].seat.h⟩}) from flat_set regL 6 regL_len _ i 4 (by simpa using hi) (by decide) _ _ (by simp[regL]),List.set_set] at h3
 have h4:=row_set h3 (i*6+5) (.int .i64 t.h) (hb 5 (by decide));rw[show(regsL (ps.set i {ps[i] with seat:=⟨t.p,t.d,t.s,ps[i].seat.h⟩})).set (i*6+5) (.int .i64 t.h)=regsL ((ps.set i {ps[i] with seat:=⟨t.p,t.d,t.s,ps[i].seat.h⟩}).set i {ps[i] with seat:=t}) from flat_set regL 6 regL_len _ i 5 (by simpa using hi) (by decide) _ _ (by simp[regL]),List.set_set] at h4;exact h4
structure RLoc where
 sb:Nat
 av:Value
 pv:Value
 rv:List Value
def rblocks (rv:List Value):List Nat:=rv.flatMap fun v=>v.ownBlock.toList
def RLoc.foot (R:RLoc):List Nat:=R.sb::(R.av.ownBlock.toList ++(R.pv.ownBlock.toList ++rblocks R.rv))
def actsL (al:List SAct) (rv:List Value):List Value:=(al.zip rv).flatMap fun x=>actL x.1 x.2
structure RStoreAt (R:RLoc) (S:Sto) (w:World):Prop where
 blk:Blk w R.sb #[S.node,S.next,R.av,R.pv]
 acts:w.ownsRow 0 116 8 R.av S.acts.length (actsL S.acts R.rv)
 parts:w.ownsRow 0 166 7 R.pv S.parts.length (partsL S.parts)
 len:R.rv.length=S.acts.length
 regs:∀(i:Nat) (v:Value) (a:SAct),R.rv[i]? =some v→S.acts[i]? =some a→w.ownsRow 0 199 6 v a.regs.length (regsL a.regs)
 once:R.foot.Nodup
theorem mem_rblocks {rv:List Value} {k:Nat}:k∈rblocks rv↔∃(i:Nat) (v:Value),rv[i]? =some v∧v.ownBlock=some k:=by
 unfold rblocks;rw[List.mem_flatMap];constructor
 · rintro⟨v,hv,hk⟩;obtain⟨i,hi⟩:=List.getElem?_of_mem hv;exact⟨i,v,hi,by simpa using hk⟩
 · rintro⟨i,v,hi,hk⟩;exact⟨v,List.mem_of_getElem? hi,by simpa using hk⟩
theorem RLoc.mem {R:RLoc} {k:Nat}:k∈R.foot↔k=R.sb∨R.av.ownBlock=some k∨R.pv.ownBlock=some k∨k∈rblocks R.rv:=by
 unfold RLoc.foot;simp[List.mem_append]
theorem rfoot_nodup {R:RLoc}:R.foot.Nodup↔R.av.ownBlock≠some R.sb∧R.pv.ownBlock≠some R.sb∧R.sb∉rblocks R.rv∧(rblocks R.rv).Nodup∧(∀k,R.av.ownBlock=some k→R.pv.ownBlock≠some k∧k∉rblocks R.rv)∧(∀k,R.pv.ownBlock=some k→k∉rblocks R.rv):=by
 unfold RLoc.foot
 cases ha:R.av.ownBlock with
 | none=>
  cases hp:R.pv.ownBlock with
  | none=>simp[List.nodup_cons]
  | some q => simp [List.nodup_cons]; constructor
              · rintro⟨⟨h1,h2⟩,h3,h4⟩;exact⟨fun e=>h1 e.symm,h2,h4,h3⟩
              · rintro⟨h1,h2,h3,h4⟩;exact⟨⟨fun e=>h1 e.symm,h2⟩,h4,h3⟩
 | some p=>
  cases hp:R.pv.ownBlock with
  | none => simp [List.nodup_cons]; constructor
            · rintro⟨⟨h1,h2⟩,h3,h4⟩;exact⟨fun e=>h1 e.symm,h2,h4,h3⟩
            · rintro⟨h1,h2,h3,h4⟩;exact⟨⟨fun e=>h1 e.symm,h2⟩,h4,h3⟩
  | some q => simp [List.nodup_cons]; constructor
              · rintro⟨⟨h1,h2,h3⟩,⟨h4,h5⟩,h6,h7⟩;exact⟨fun e=>h1 e.symm,fun e=>h2 e.symm,h3,h7,⟨fun e=>h4 e.symm,h5⟩,h6⟩
              · rintro⟨h1,h2,h3,h4,⟨h5,h6⟩,h7⟩;exact⟨⟨fun e=>h1 e.symm,fun e=>h2 e.symm,h3⟩,⟨fun e=>h5 e.symm,h6⟩,h7,h4⟩
theorem RStoreAt.lt {R:RLoc} {S:Sto} {w:World} (h:RStoreAt R S w):∀k∈R.foot,k<w.heap.size:=by
 intro k hk;rcases RLoc.mem.1 hk with rfl | hk | hk | hk
 · exact h.blk.lt
 · exact(h.acts.lt k hk).2
 · exact(h.parts.lt k hk).2
 · obtain⟨i,v,hi,hk⟩:=mem_rblocks.1 hk;have hl:=(List.getElem?_eq_some_iff.1 hi).1;rw[h.len] at hl;exact((h.regs i v _ hi (List.getElem?_eq_getElem hl)).lt k hk).2
theorem RStoreAt.keep {R:RLoc} {S:Sto} {w w':World} (h:RStoreAt R S w) (hz:w.heap.size≤w'.heap.size) (he:∀k∈R.foot,w'.heap[k]? =w.heap[k]?):RStoreAt R S w':=
 ⟨h.blk.same hz (he _ (RLoc.mem.2 (.inl rfl))),row_heap h.acts (fun k hk=>he k (RLoc.mem.2 (.inr (.inl hk)))),row_heap h.parts (fun k hk=>he k (RLoc.mem.2 (.inr (.inr (.inl hk))))),h.len,fun i v a hv ha=>row_heap (h.regs i v a hv ha) (fun k hk=>he k (RLoc.mem.2 (.inr (.inr (.inr (mem_rblocks.2 ⟨i,v,hv,hk⟩)))))),h.once⟩
theorem RStoreAt.below {R:RLoc} {S:Sto} {w w':World} (h:RStoreAt R S w) (hb:Below w.heap.size w w'):RStoreAt R S w':=h.keep hb.size (fun k hk=>hb.block k (h.lt k hk))
def RGoes (R:RLoc) (S':Sto) (w w':World):Prop:=∃R',R'.sb=R.sb∧RStoreAt R' S' w'∧Goes R.foot R'.foot w w'
theorem RGoes.same {R:RLoc} {S:Sto} {w w':World} (h:RStoreAt R S w) (hb:Below w.heap.size w w'):RGoes R S w w':=⟨R,rfl,h.below hb,.of_below hb⟩
theorem RGoes.after {R:RLoc} {S:Sto} {w w1 w':World} (hb:Below w.heap.size w w1) (h:RGoes R S w1 w'):RGoes R S w w':=by
 obtain⟨R',h1,h2,h3⟩:=h;exact⟨R',h1,h2,.after hb h3⟩
theorem RGoes.then_below {R:RLoc} {S:Sto} {w w1 w':World} (h:RGoes R S w w1) (hb:Below w1.heap.size w1 w'):RGoes R S w w':=by
 obtain⟨R',h1,h2,h3⟩:=h;exact⟨R',h1,h2.below hb,h3.then_below hb⟩
theorem RStoreAt.ne_top {R:RLoc} {S:Sto} {w:World} (h:RStoreAt R S w):R.av.ownBlock≠some R.sb∧R.pv.ownBlock≠some R.sb∧(∀k,R.av.ownBlock=some k→R.pv.ownBlock≠some k):=by
 obtain⟨h1,h2,_,_,h5,_⟩:=rfoot_nodup.1 h.once;exact⟨h1,h2,fun k hk=>(h5 k hk).1⟩
theorem RStoreAt.ne_regs {R:RLoc} {S:Sto} {w:World} (h:RStoreAt R S w) {i:Nat} {v:Value} (hv:R.rv[i]? =some v):∀k,v.ownBlock=some k→k≠R.sb∧R.av.ownBlock≠some k∧R.pv.ownBlock≠some k:=by
 obtain⟨h1,h2,h3,_,h5,h6⟩:=rfoot_nodup.1 h.once;intro k hk;have hm:k∈rblocks R.rv:=mem_rblocks.2 ⟨i,v,hv,hk⟩;exact⟨fun e=>h3 (e▸hm),fun e=>(h5 k e).2 hm,fun e=>h6 k e hm⟩
theorem rblocks_cons (v:Value) (t:List Value):rblocks (v::t)=v.ownBlock.toList ++rblocks t:=rfl
theorem rblocks_ne {rv:List Value} (hn:(rblocks rv).Nodup):∀{i j:Nat} {u v:Value},rv[i]? =some u→rv[j]? =some v→i≠j→∀k,u.ownBlock=some k→v.ownBlock≠some k:=by
 induction rv with
 | nil=>intro i j u v h;simp at h
 | cons x t ih=>
  intro i j u v hu hv hij k hk hk2;rw[rblocks_cons,List.nodup_append] at hn;obtain⟨_,h2,h3⟩:=hn
  match i,j with
  | 0,0=>exact hij rfl
  | 0,j+1=>
   simp at hu hv;subst hu;exact h3 k (by simp[hk]) k (mem_rblocks.2 ⟨j,v,hv,hk2⟩) rfl
  | i+1,0=>
   simp at hu hv;subst hv;exact h3 k (by simp[hk2]) k (mem_rblocks.2 ⟨i,u,hu,hk⟩) rfl
  | i+1,j+1=>exact ih h2 (by simpa using hu) (by simpa using hv) (by omega) k hk hk2
theorem RStoreAt.ne_two {R:RLoc} {S:Sto} {w:World} (h:RStoreAt R S w) {i j:Nat} {u v:Value} (hu:R.rv[i]? =some u) (hv:R.rv[j]? =some v) (hij:i≠j):∀k,u.ownBlock=some k→v.ownBlock≠some k:=rblocks_ne (rfoot_nodup.1 h.once).2.2.2.1 hu hv hij
def ActC (w:World) (b o:Nat) (a:SAct) (v:Value):Prop:=w.cell? ⟨b,o,none⟩=some (.int .i64 a.an)∧w.cell? ⟨b,o+1,none⟩=some (.int .i64 a.aq)∧w.cell? ⟨b,o+2,none⟩=some (.int .i64 a.oc)∧w.cell? ⟨b,o+3,none⟩=some (.int .i64 a.dp)∧w.cell? ⟨b,o+4,none⟩=some (.float .f64 a.ex)∧w.cell? ⟨b,o+5,none⟩=some (.int .i64 a.pa)∧w.cell? ⟨b,o+6,none⟩=some (.int .i64 a.de)∧w.cell? ⟨b,o+7,none⟩=some v
theorem ActC.below {w w':World} {b o:Nat} {a:SAct} {v:Value} (h:ActC w b o a v) (hb:Below w.heap.size w w') (hl:b<w.heap.size):ActC w' b o a v:=
 ⟨(hb.cell (p:=⟨b,o,none⟩) hl).trans h.1,(hb.cell (p:=⟨b,o+1,none⟩) hl).trans h.2.1,(hb.cell (p:=⟨b,o+2,none⟩) hl).trans h.2.2.1,(hb.cell (p:=⟨b,o+3,none⟩) hl).trans h.2.2.2.1,(hb.cell (p:=⟨b,o+4,none⟩) hl).trans h.2.2.2.2.1,(hb.cell (p:=⟨b,o+5,none⟩) hl).trans h.2.2.2.2.2.1,(hb.cell (p:=⟨b,o+6,none⟩) hl).trans h.2.2.2.2.2.2.1,(hb.cell (p:=⟨b,o+7,none⟩) hl).trans h.2.2.2.2.2.2.2⟩
theorem actL_len (x:SAct×Value):(actL x.1 x.2).length=8:=rfl
theorem act_row {w : World} {B : Nat} {T : TypeId} {v : Value} {n : Nat} {al : List SAct} {rv : List Value} (hl : rv.length = al.length) (h : w.ownsRow B T 8 v n (actsL al rv)) :
    ∃a cap,v=.slice a n cap∧al.length=n∧(0<n→∃g,a=some ⟨g,0,none⟩∧g<w.heap.size∧(∀i,w.frozen? ⟨g,i,none⟩=false)∧∀(j:Nat) (x:SAct) (u:Value),al[j]? =some x→rv[j]? =some u→ActC w g (j*8) x u):=by
 have hzl:(al.zip rv).length=al.length:=by rw[List.length_zip,hl,Nat.min_self]
 have hn:al.length=n:=by have:=h.1;unfold actsL at this;rw[flat_length _ 8 actL_len,hzl] at this;omega
 obtain⟨a,cap,rfl⟩:=row_slice h;refine⟨a,cap,rfl,hn,fun h0=> ?_⟩;obtain⟨g,cap',he,_,_,hg,hc,hf⟩:=row_form h h0;obtain⟨rfl,_⟩:a=some ⟨g,0,none⟩∧cap=cap':=by simpa using he
 refine⟨g,rfl,hg,hf,fun j x u hx hu=> ?_⟩;obtain⟨hj,rfl⟩:=List.getElem?_eq_some_iff.1 hx;obtain⟨hj2,rfl⟩:=List.getElem?_eq_some_iff.1 hu;have hat:=fun k hk=>flat_at (fun x:SAct×Value=>actL x.1 x.2) 8 actL_len (al.zip rv) j k (by omega) hk
 simp only[List.getElem_zip] at hat;refine⟨hc _ _ ?_,hc _ _ ?_,hc _ _ ?_,hc _ _ ?_,hc _ _ ?_,hc _ _ ?_,hc _ _ ?_,hc _ _ ?_⟩
 · exact hat 0 (by decide)
 · exact hat 1 (by decide)
 · exact hat 2 (by decide)
 · exact hat 3 (by decide)
 · exact hat 4 (by decide)
 · exact hat 5 (by decide)
 · exact hat 6 (by decide)
 · exact hat 7 (by decide)
theorem actEq (n q n' q':Int) (w:World):(binOp .eql 36 (.agg #[n,q]) (.agg #[n',q'])).run Tryz.prog w=.ok (.bool (decide (n=n'∧q=q'))) w:=by
 by_cases h1:n=n'<;>by_cases h2:q=q'<;>(go_simp;try simp[h1,h2])
theorem has_of (L:SLoc) (S:Sto) (pt:Int) (w:World) (h:StoreAt L S w):Calls Tryz.prog 86 #[.pointer (some ⟨L.sb,0,none⟩),.int .i64 pt] w (Gives (.bool (decide (0≤pt∧pt<(S.parts.length:Int)))) w):=by
 have q:=h.blk.cell;obtain⟨a,cap,hv⟩:=row_slice h.parts;rw[hv] at q;obtain⟨n,hn⟩:∃n,n=S.parts.length:=⟨_,rfl⟩
 rw[←hn] at q⊢;have c3:w.cell? ⟨L.sb,3,none⟩=some (.slice a n cap):=q 3;clear q hn hv h;by_cases h0:0≤pt
 · by_cases h1:pt<(n:Int)
   · rw[decide_eq_true ⟨h0,h1⟩];go_enter Tryz.func86,Tryz.ntmps86;go_wp2_with fail;go_ret;exact⟨rfl,rfl⟩
   · rw[decide_eq_false (fun x=>h1 x.2)];go_enter Tryz.func86,Tryz.ntmps86;go_wp2_with fail;go_ret;exact⟨rfl,rfl⟩
 · rw[decide_eq_false (fun x=>h0 x.1)];go_enter Tryz.func86,Tryz.ntmps86;go_wp2_with fail;go_ret;exact⟨rfl,rfl⟩
theorem find1_of (b p:Nat) (a:SAct) (v:Value) (n q:Int) (w:World) (hb:Blk w b (actC a v)) (hp:Blk w p #[n,q]):Calls Tryz.prog 192 #[.pointer (some ⟨b,0,none⟩),.pointer (some ⟨p,0,none⟩)] w (Makes (.bool (decide (a.an=n∧a.aq=q))) w):=by
 have hse:=fun W=>actEq a.an a.aq n q W
 generalize decide (a.an=n∧a.aq=q)=t at*;have a0:w.cell? ⟨b,0,none⟩=some (.int .i64 a.an):=hb.cell 0;have a1:w.cell? ⟨b,1,none⟩=some (.int .i64 a.aq):=hb.cell 1;have p0:w.cell? ⟨p,0,none⟩=some (.int .i64 n):=hp.cell 0;have p1:w.cell? ⟨p,1,none⟩=some (.int .i64 q):=hp.cell 1;clear hb hp;go_enter Tryz.func192,Tryz.ntmps192;go_wp2_with fail;go_quiet (fail);go_wp2_with fail;go_ret
 exact⟨rfl,⟨rfl,rfl,rfl,Nat.le_refl _,fun _ _=>rfl⟩⟩
theorem child1_of (b p:Nat) (a:SAct) (v:Value) (n:Int) (w:World) (hb:Blk w b (actC a v)) (hp:Blk w p #[n]):Calls Tryz.prog 203 #[.pointer (some ⟨b,0,none⟩),.pointer (some ⟨p,0,none⟩)] w (Makes (.bool (decide (a.pa=n))) w):=by
 have a0:w.cell? ⟨b,5,none⟩=some (.int .i64 a.pa):=hb.cell 5;have p0:w.cell? ⟨p,0,none⟩=some (.int .i64 n):=hp.cell 0;clear hb hp;have e:(a.pa==n)=decide (a.pa=n):=by by_cases h:a.pa=n<;>simp[h]
 generalize decide (a.pa=n)=t at*;generalize a.pa=x at*;go_enter Tryz.func203,Tryz.ntmps203;go_wp2_with fail;go_quiet (fail);go_wp2_with fail;go_ret;exact⟨ret_bool (by first | rfl | exact e),⟨rfl,rfl,rfl,Nat.le_refl _,fun _ _=>rfl⟩⟩
theorem indexP_find (p : Nat) {α : Type} (l : List α) (q : α → Bool) (av : Value) (ab : List (Nat × Value)) (w : World) (hrow : w.ownsRow 0 159 1 av l.length (ptrs ab)) (hl : l.length ≤ 1000)
    (hp:∀(W:World) (j:Nat) (x:Nat×Value) (a:α),Below w.heap.size w W→ab[j]? =some x→l[j]? =some a→Calls Tryz.prog 192 #[.pointer (some ⟨x.1,0,none⟩),.pointer (some ⟨p,0,none⟩)] W (Makes (.bool (q a)) W)):
    Calls Tryz.prog 191 #[av,.func (.func 192) #[] #[.pointer (some ⟨p,0,none⟩)]] w (Makes (.int .i64 (oix (l.findIdx? q))) w):=by
 obtain⟨a,cap,rfl,hab,hr⟩:=ptr_row hrow;have HR:=qq hr;have HP:=qq hp;have HA:=qq hab;clear hr hp hab hrow;obtain⟨n,hn⟩:∃n,n=l.length:=⟨_,rfl⟩
 rw[←hn] at hl HR HA⊢;have HN:=qq hn;clear hn;go_enter Tryz.func191,Tryz.ntmps191;go_wp2_with fail;go_loopw [8] (fun i wr=>∃k:Nat,k≤n∧i=.int .i64 (k:Nat)∧Hid (∀(j:Nat) (h:j<l.length),j<k→q l[j]=false)∧Below w.heap.size w wr) (fun i _=>n - (intOf i).toNat)
 case atStart=>exact⟨0,by omega,by go_num,qq (fun j _ h=>absurd h (by omega)),Below.refl _ _⟩
 case round=>
  obtain⟨k,hk,rfl,HBE,hB⟩:=hrel;by_cases hlt:k<n
  · have hks:k<l.length:=by rw[←HN.out];exact hlt
    obtain⟨g,rfl,hg,hfz,hcell⟩:=HR.out (by omega);obtain⟨x,hx⟩:∃x,ab[k]? =some x:=⟨_,List.getElem?_eq_getElem (by rw[HA.out];exact hlt)⟩
    have c0:wr.cell? ⟨g,k,none⟩=some (.pointer (some ⟨x.1,0,none⟩)):=(hB.cell (p:=⟨g,k,none⟩) hg).trans (hcell k x hx);have hki:(k:Int)<(n:Int):=by omega
    have hk0:(0:Int)≤(k:Int):=by omega
    have hc:=fun W hW=>HP.out W k x l[k] hW hx (List.getElem?_eq_getElem hks)
    obtain⟨t,ht⟩:∃t,t=q l[k]:=⟨_,rfl⟩
    rw[←ht] at hc;have HT:=qq ht;have HC:=qq hc;clear ht hc hcell hx hfz;obtain⟨xb,xv⟩:=x;dsimp only at c0 HC;go_wp2_with fail;refine(HC.out _ (below_then hB (by go_grown))).mono ?_;rintro e w1 ⟨rfl,hb1⟩;have hB1:Below w.heap.size w w1:=below_then hB (below_then (by go_grown) hb1)
    cases t with
    | true=>
     go_wp2_with fail;go_ret;exact⟨by rw[find_hit hks HBE.out HT.out.symm];rfl,hB1⟩
    | false=>
     go_wp2_with fail
     all_goals (go_roundw <;> first | exact ⟨k + 1, by omega, by go_num, qq (fun j h hj => by
         rcases Nat.lt_or_eq_of_le (Nat.le_of_lt_succ hj) with h1 | h1
         · exact HBE.out j h h1
         · subst h1;exact HT.out.symm),hB1⟩ | (simp[intOf];omega))
  · obtain rfl:k=n:=by omega
    go_wp2_with fail;go_ret;exact⟨by rw[find_miss (fun j h=>HBE.out j h (by rw[HN.out];exact h))];rfl,hB⟩
theorem indexP_child (p : Nat) {α : Type} (l : List α) (q : α → Bool) (av : Value) (ab : List (Nat × Value)) (w : World) (hrow : w.ownsRow 0 159 1 av l.length (ptrs ab)) (hl : l.length ≤ 1000)
    (hp:∀(W:World) (j:Nat) (x:Nat×Value) (a:α),Below w.heap.size w W→ab[j]? =some x→l[j]? =some a→Calls Tryz.prog 203 #[.pointer (some ⟨x.1,0,none⟩),.pointer (some ⟨p,0,none⟩)] W (Makes (.bool (q a)) W)):
    Calls Tryz.prog 191 #[av,.func (.func 203) #[] #[.pointer (some ⟨p,0,none⟩)]] w (Makes (.int .i64 (oix (l.findIdx? q))) w):=by
 obtain⟨a,cap,rfl,hab,hr⟩:=ptr_row hrow;have HR:=qq hr;have HP:=qq hp;have HA:=qq hab;clear hr hp hab hrow;obtain⟨n,hn⟩:∃n,n=l.length:=⟨_,rfl⟩
 rw[←hn] at hl HR HA⊢;have HN:=qq hn;clear hn;go_enter Tryz.func191,Tryz.ntmps191;go_wp2_with fail;go_loopw [8] (fun i wr=>∃k:Nat,k≤n∧i=.int .i64 (k:Nat)∧Hid (∀(j:Nat) (h:j<l.length),j<k→q l[j]=false)∧Below w.heap.size w wr) (fun i _=>n - (intOf i).toNat)
 case atStart=>exact⟨0,by omega,by go_num,qq (fun j _ h=>absurd h (by omega)),Below.refl _ _⟩
 case round=>
  obtain⟨k,hk,rfl,HBE,hB⟩:=hrel;by_cases hlt:k<n
  · have hks:k<l.length:=by rw[←HN.out];exact hlt
    obtain⟨g,rfl,hg,hfz,hcell⟩:=HR.out (by omega);obtain⟨x,hx⟩:∃x,ab[k]? =some x:=⟨_,List.getElem?_eq_getElem (by rw[HA.out];exact hlt)⟩
    have c0:wr.cell? ⟨g,k,none⟩=some (.pointer (some ⟨x.1,0,none⟩)):=(hB.cell (p:=⟨g,k,none⟩) hg).trans (hcell k x hx);have hki:(k:Int)<(n:Int):=by omega
    have hk0:(0:Int)≤(k:Int):=by omega
    have hc:=fun W hW=>HP.out W k x l[k] hW hx (List.getElem?_eq_getElem hks)
    obtain⟨t,ht⟩:∃t,t=q l[k]:=⟨_,rfl⟩
    rw[←ht] at hc;have HT:=qq ht;have HC:=qq hc;clear ht hc hcell hx hfz;obtain⟨xb,xv⟩:=x;dsimp only at c0 HC;go_wp2_with fail;refine(HC.out _ (below_then hB (by go_grown))).mono ?_;rintro e w1 ⟨rfl,hb1⟩;have hB1:Below w.heap.size w w1:=below_then hB (below_then (by go_grown) hb1)
    cases t with
    | true=>
     go_wp2_with fail;go_ret;exact⟨by rw[find_hit hks HBE.out HT.out.symm];rfl,hB1⟩
    | false=>
     go_wp2_with fail
     all_goals (go_roundw <;> first | exact ⟨k + 1, by omega, by go_num, qq (fun j h hj => by
         rcases Nat.lt_or_eq_of_le (Nat.le_of_lt_succ hj) with h1 | h1
         · exact HBE.out j h h1
         · subst h1;exact HT.out.symm),hB1⟩ | (simp[intOf];omega))
  · obtain rfl:k=n:=by omega
    go_wp2_with fail;go_ret;exact⟨by rw[find_miss (fun j h=>HBE.out j h (by rw[HN.out];exact h))];rfl,hB⟩
def aptr (L:SLoc) (o:Option Nat):Value:=.pointer (o.bind fun i=>(L.ab[i]?).map fun x=>(⟨x.1,0,none⟩:Addr))
theorem find_of (L:SLoc) (S:Sto) (n q:Int) (w:World) (h:StoreAt L S w) (hG:StoGood S):Calls Tryz.prog 88 #[.pointer (some ⟨L.sb,0,none⟩),.agg #[n,q]] w (Makes (aptr L (sfind S n q)) w):=by
 have hB:=(Below.refl w.heap.size w).alloc (Nat.le_refl _) (.cells #[n,q] 36);have h1:=h.below hB;have hbx:=Blk.fresh w #[n,q] 36 _ rfl;have hI:=fun W (hW:Below w.heap.size w W) (hA:StoreAt L S W) (hx:Blk W w.heap.size #[n,q])=>indexP_find w.heap.size S.acts (fun a=>decide (a.an=n∧a.aq=q)) L.av L.ab W hA.acts (by have:=hG.acts;omega)
  (fun W' j x a hb hx' ha'=>find1_of x.1 w.heap.size a x.2 n q W' ((hA.below hb).act j x a hx' ha').1 (hx.below hb))
 have q2:∀W,StoreAt L S W→W.cell? ⟨L.sb,2,none⟩=some L.av:=fun W hW=>hW.blk.cell 2
 have hlt:=h.blk.lt;obtain⟨a,cap,hv,hab,hr⟩:=ptr_row h1.acts;have hfi:S.acts.findIdx? (fun a=>decide (a.an=n∧a.aq=q))=sfind S n q:=rfl;rw[hfi] at hI;rw[hv] at hI q2;have hle:∀i,sfind S n q=some i→i<S.acts.length:=fun i hi=>by
  unfold sfind at hi;exact(List.findIdx?_eq_some_iff_getElem.1 hi).1
 obtain⟨m,hm⟩:∃m,m=S.acts.length:=⟨_,rfl⟩
 rw[←hm] at hI q2 hab hr hle;have HI:=qq (hI _ hB h1 hbx);have HQ:=qq q2;have HH:=qq h1;have HR:=qq hr;have HB:=qq hB;have HAB:=qq hab;have c0:=q2 _ h
 cases hs:sfind S n q with
 | none=>
  rw[hs] at HI;clear hs hI q2 h1 hr hB hbx hfi hv hm hle h hab;dsimp only[oix] at HI;dsimp only[aptr,Option.bind];go_enter Tryz.func88,Tryz.ntmps88;go_wp2_with fail;refine HI.out.mono ?_;rintro e w1 ⟨rfl,hb1⟩;go_wp2_with fail;go_ret;exact⟨rfl,below_then HB.out hb1⟩
 | some i=>
  rw[hs] at HI;have hil:=hle i hs;obtain⟨g,rfl,hg,hfz,hcell⟩:=hr (by omega);obtain⟨x,hx⟩:∃x,L.ab[i]? =some x:=⟨_,List.getElem?_eq_getElem (by omega)⟩
  have hc:=hcell i x hx;have hap:aptr L (some i)=.pointer (some ⟨x.1,0,none⟩):=by simp[aptr,hx]
  rw[hap];have HC:=qq hc;have HG:=qq hg;clear hs hI q2 h1 hr hB hbx hfi hv hm hle h hab hx hap hcell hc hg hfz HR;obtain⟨xb,xv⟩:=x;dsimp only[oix] at*;have hi0:(0:Int)≤(i:Int):=by omega
  have hi1:(i:Int)<(m:Int):=by omega
  go_enter Tryz.func88,Tryz.ntmps88;go_wp2_with fail;refine HI.out.mono ?_;rintro e w1 ⟨rfl,hb1⟩;have c1:=HQ.out _ (HH.out.below hb1);have c2:w1.cell? ⟨g,i,none⟩=some (.pointer (some ⟨xb,0,none⟩)):=(hb1.cell (p:=⟨g,i,none⟩) HG.out).trans HC.out;go_wp2_with fail;go_ret;exact⟨rfl,below_then HB.out hb1⟩
theorem child_of (L:SLoc) (S:Sto) (pa:Int) (w:World) (h:StoreAt L S w) (hG:StoGood S):Calls Tryz.prog 102 #[.pointer (some ⟨L.sb,0,none⟩),.int .i64 pa] w (Makes (aptr L (if pa≤0 then none else schild S pa)) w):=by
 have hB:=(Below.refl w.heap.size w).alloc (Nat.le_refl _) (.cells #[pa] 3);have h1:=h.below hB;have hbx:=Blk.fresh w #[pa] 3 _ rfl;have hI:=fun W (hW:Below w.heap.size w W) (hA:StoreAt L S W) (hx:Blk W w.heap.size #[pa])=>indexP_child w.heap.size S.acts (fun a=>decide (a.pa=pa)) L.av L.ab W hA.acts (by have:=hG.acts;omega)
  (fun W' j x a hb hx' ha'=>child1_of x.1 w.heap.size a x.2 pa W' ((hA.below hb).act j x a hx' ha').1 (hx.below hb))
 have q2:∀W,StoreAt L S W→W.cell? ⟨L.sb,2,none⟩=some L.av:=fun W hW=>hW.blk.cell 2
 have hlt:=h.blk.lt;obtain⟨a,cap,hv,hab,hr⟩:=ptr_row h1.acts;have hfi:S.acts.findIdx? (fun a=>decide (a.pa=pa))=schild S pa:=rfl;rw[hfi] at hI;rw[hv] at hI q2;have hle:∀i,schild S pa=some i→i<S.acts.length:=fun i hi=>by
  unfold schild at hi;exact(List.findIdx?_eq_some_iff_getElem.1 hi).1
 obtain⟨m,hm⟩:∃m,m=S.acts.length:=⟨_,rfl⟩
 rw[←hm] at hI q2 hab hr hle;have HI:=qq (hI _ hB h1 hbx);have HQ:=qq q2;have HH:=qq h1;have HR:=qq hr;have HB:=qq hB;have HAB:=qq hab;have HX:=qq hbx;have c0:=q2 _ h;by_cases hp:pa≤0
 · rw[if_pos hp];obtain⟨o,ho⟩:∃o,o=schild S pa:=⟨_,rfl⟩
   rw[←ho] at HI;clear ho hI q2 h1 hr hB hbx hfi hv hm hle h hab;dsimp only[aptr,Option.bind];go_enter Tryz.func102,Tryz.ntmps102;go_wp2_with fail;refine HI.out.mono ?_;rintro e w1 ⟨rfl,hb1⟩;have c1:w1.cell? ⟨w.heap.size,0,none⟩=some (.int .i64 pa):=(HX.out.below hb1).cell 0;go_wp2_with fail;go_ret;exact⟨rfl,below_then HB.out hb1⟩
 · rw[if_neg hp]
   cases hs:schild S pa with
   | none=>
    rw[hs] at HI;clear hs hI q2 h1 hr hB hbx hfi hv hm hle h hab;dsimp only[oix] at HI;dsimp only[aptr,Option.bind];go_enter Tryz.func102,Tryz.ntmps102;go_wp2_with fail;refine HI.out.mono ?_;rintro e w1 ⟨rfl,hb1⟩;have c1:w1.cell? ⟨w.heap.size,0,none⟩=some (.int .i64 pa):=(HX.out.below hb1).cell 0;go_wp2_with fail;go_ret;exact⟨rfl,below_then HB.out hb1⟩
   | some i=>
    rw[hs] at HI;have hil:=hle i hs;obtain⟨g,rfl,hg,hfz,hcell⟩:=hr (by omega);obtain⟨x,hx⟩:∃x,L.ab[i]? =some x:=⟨_,List.getElem?_eq_getElem (by omega)⟩
    have hc:=hcell i x hx;have hap:aptr L (some i)=.pointer (some ⟨x.1,0,none⟩):=by simp[aptr,hx]
    rw[hap];have HC:=qq hc;have HG:=qq hg;clear hs hI q2 h1 hr hB hbx hfi hv hm hle h hab hx hap hcell hc hg hfz HR;obtain⟨xb,xv⟩:=x;dsimp only[oix] at*;have hi0:(0:Int)≤(i:Int):=by omega
    have hi1:(i:Int)<(m:Int):=by omega
    go_enter Tryz.func102,Tryz.ntmps102;go_wp2_with fail;refine HI.out.mono ?_;rintro e w1 ⟨rfl,hb1⟩;have c3:w1.cell? ⟨w.heap.size,0,none⟩=some (.int .i64 pa):=(HX.out.below hb1).cell 0;have c1:=HQ.out _ (HH.out.below hb1);have c2:w1.cell? ⟨g,i,none⟩=some (.pointer (some ⟨xb,0,none⟩)):=(hb1.cell (p:=⟨g,i,none⟩) HG.out).trans HC.out;go_wp2_with fail;go_ret;exact⟨rfl,below_then HB.out hb1⟩
def fcp (a b:Int):Int:=if a<b then -1 else if b<a then 1 else 0
theorem notnan_of (a:Int) (w:World):Calls Tryz.prog 289 #[.int .i64 a] w (Gives (.bool false) w):=by
 go_enter Tryz.func289,Tryz.ntmps289;go_wp2;go_ret;exact⟨ret_bool (by simp),rfl⟩
theorem cmpInt_of (a b:Int) (w:World):Calls Tryz.prog 253 #[.int .i64 a,.int .i64 b] w (Gives (.int .i64 (fcp a b)) w):=by
 have HN:=qq notnan_of;unfold fcp;by_cases h1:a<b
 · rw[if_pos h1];go_enter Tryz.func253,Tryz.ntmps253;go_wp2_with (go_at_call 289;refine(HN.out _ _).mono ?_;rintro e w1 ⟨rfl,rfl⟩);go_ret;exact⟨rfl,rfl⟩
 rw[if_neg h1];by_cases h2:b<a
 · rw[if_pos h2];go_enter Tryz.func253,Tryz.ntmps253;go_wp2_with (go_at_call 289;refine(HN.out _ _).mono ?_;rintro e w1 ⟨rfl,rfl⟩);go_ret;exact⟨rfl,rfl⟩
 rw[if_neg h2];go_enter Tryz.func253,Tryz.ntmps253;go_wp2_with (go_at_call 289;refine(HN.out _ _).mono ?_;rintro e w1 ⟨rfl,rfl⟩);go_ret;exact⟨rfl,rfl⟩
theorem forder_eq (x y:Nat) (hx:F64 x) (hy:F64 y):forder x y=if flt x y=true then -1 else if flt y x=true then 1 else fcp (fclass x) (fclass y):=by
 unfold F64 at hx hy;unfold forder fplace flt fclass fcp
 cases hnx:fnan x<;>cases hny:fnan y
 · simp only[Bool.not_false,Bool.true_and,decide_eq_true_eq,Bool.false_eq_true,if_false];unfold fkey;have nx:¬9218868437227405312<x % 9223372036854775808:=by unfold fnan at hnx;simpa using hnx
   have ny:¬9218868437227405312<y % 9223372036854775808:=by unfold fnan at hny;simpa using hny
   repeat' split
   all_goals omega
 · simp only[Bool.not_false,Bool.not_true,Bool.true_and,Bool.and_false,Bool.false_and,Bool.false_eq_true,if_false,if_true]
   repeat' split
   all_goals omega
 · simp only[Bool.not_false,Bool.not_true,Bool.true_and,Bool.and_false,Bool.false_and,Bool.false_eq_true,if_false,if_true]
   repeat' split
   all_goals omega
 · simp
theorem forder_of (x y:Nat) (hx:F64 x) (hy:F64 y) (w:World):Calls Tryz.prog 189 #[flV x,flV y] w (Gives (.int .i64 (forder x y)) w):=by
 rw[forder_eq x y hx hy];have e1:=run_flt x y hx hy;have e2:=run_fgt x y hx hy;have HX:=qq (fun W=>class_of x hx W);have HY:=qq (fun W=>class_of y hy W);have HC:=qq cmpInt_of;generalize fclass x=a at*;generalize fclass y=b at*;generalize flt x y=t at*;generalize flt y x=u at*;clear hx hy
 cases t with
 | true=>
  go_enter Tryz.func189,Tryz.ntmps189;go_wp2;go_ret;exact⟨rfl,rfl⟩
 | false=>
  cases u with
  | true=>
   simp only[Bool.false_eq_true,if_false,if_true];go_enter Tryz.func189,Tryz.ntmps189;go_wp2;go_ret;exact⟨rfl,rfl⟩
  | false=>
   simp only[Bool.false_eq_true,if_false];go_enter Tryz.func189,Tryz.ntmps189;go_wp2_with fail;refine(HX.out _).mono ?_;rintro e w1 ⟨rfl,rfl⟩;go_wp2_with fail;refine(HY.out _).mono ?_;rintro e w1 ⟨rfl,rfl⟩;go_wp2_with fail;refine(HC.out _ _ _).mono ?_;rintro e w1 ⟨rfl,rfl⟩;go_wp2;go_ret;exact⟨rfl,rfl⟩
theorem within_of (n l m:Int) (w:World):Calls Tryz.prog 249 #[.int .i64 n,.int .i64 l,.int .i64 m] w (Gives (.bool (decide (l≤n∧n≤m))) w):=by
 by_cases h1:l≤n
 · by_cases h2:n≤m
   · rw[decide_eq_true ⟨h1,h2⟩];go_enter Tryz.func249,Tryz.ntmps249;go_wp2_with fail;go_ret;exact⟨rfl,rfl⟩
   · rw[decide_eq_false (fun h=>h2 h.2)];go_enter Tryz.func249,Tryz.ntmps249;go_wp2_with fail;go_ret;exact⟨rfl,rfl⟩
 · rw[decide_eq_false (fun h=>h1 h.1)];go_enter Tryz.func249,Tryz.ntmps249;go_wp2_with fail;go_ret;exact⟨rfl,rfl⟩
theorem isReg_of (n:Int) (w:World):Calls Tryz.prog 250 #[.int .i64 n] w (Gives (.bool (decide (0≤n∧n≤5))) w):=by
 have HW:=qq (within_of n 0 5 w);go_enter Tryz.func250,Tryz.ntmps250;go_wp2_with fail;refine HW.out.mono ?_;rintro e w1 ⟨rfl,rfl⟩;go_wp2_with fail;go_ret;exact⟨ret_bool (by simp),rfl⟩
theorem isPart_of (n:Int) (w:World):Calls Tryz.prog 251 #[.int .i64 n] w (Gives (.bool (decide (0≤n∧n≤7))) w):=by
 have HW:=qq (within_of n 0 7 w);go_enter Tryz.func251,Tryz.ntmps251;go_wp2_with fail;refine HW.out.mono ?_;rintro e w1 ⟨rfl,rfl⟩;go_wp2_with fail;go_ret;exact⟨ret_bool (by simp),rfl⟩
theorem isState_of (s h:Int) (w:World):Calls Tryz.prog 252 #[.int .i64 s,.int .i64 h] w (Gives (.bool (stOk s h)) w):=by
 have HW:=qq (within_of h 4 8 w);have HX:=qq (within_of s 1 13 w);unfold stOk;by_cases h1:s=14
 · rw[if_pos h1];have e1:(s==14)=true:=by simpa using h1
   by_cases h2:h=1
   · have e2:(h==1)=true:=by simpa using h2
     rw[decide_eq_true (Or.inl h2)];clear h1 h2;go_enter Tryz.func252,Tryz.ntmps252;go_wp2_with fail;go_ret;exact⟨rfl,rfl⟩
   · have e2:(h==1)=false:=by simpa using h2
     have hd:decide (h=1∨4≤h∧h≤8)=decide (4≤h∧h≤8):=decide_eq_decide.2 ⟨fun x=>x.resolve_left h2,Or.inr⟩;rw[hd];clear h1 h2 hd;generalize decide (4≤h∧h≤8)=d at*;go_enter Tryz.func252,Tryz.ntmps252;go_wp2_with fail;refine HW.out.mono ?_;rintro e w1 ⟨rfl,rfl⟩;go_wp2_with fail;go_ret;exact⟨rfl,rfl⟩
 · rw[if_neg h1];have e1:(s==14)=false:=by simpa using h1
   by_cases h2:1≤s∧s≤13
   · rw[decide_eq_true h2] at HX;have hd:decide (1≤s∧s≤13∧h=0)=decide (h=0):=decide_eq_decide.2 ⟨fun x=>x.2.2,fun x=>⟨h2.1,h2.2,x⟩⟩;rw[hd];clear h1 h2 hd;have e2:(h==0)=decide (h=0):=by by_cases h0:h=0<;>simp[h0]
     generalize decide (h=0)=d at*;go_enter Tryz.func252,Tryz.ntmps252;go_wp2_with fail;refine HX.out.mono ?_;rintro e w1 ⟨rfl,rfl⟩;go_wp2_with fail;go_ret;exact⟨rfl,rfl⟩
   · rw[decide_eq_false h2] at HX;have hd:decide (1≤s∧s≤13∧h=0)=false:=decide_eq_false (fun x=>h2 ⟨x.1,x.2.1⟩);rw[hd];clear h1 h2 hd;go_enter Tryz.func252,Tryz.ntmps252;go_wp2_with fail;refine HX.out.mono ?_;rintro e w1 ⟨rfl,rfl⟩;go_wp2_with fail;go_ret;exact⟨rfl,rfl⟩
theorem isOutcome_of (n:Int) (w:World):Calls Tryz.prog 222 #[.int .i64 n] w (Gives (.bool (decide (n=1∨n=2))) w):=by
 by_cases h1:n=1
 · have e1:(n==1)=true:=by simpa using h1
   rw[decide_eq_true (Or.inl h1)];clear h1;go_enter Tryz.func222,Tryz.ntmps222;go_wp2_with fail;go_ret;exact⟨rfl,rfl⟩
 · have e1:(n==1)=false:=by simpa using h1
   have hd:(n==2)=decide (n=1∨n=2):=by
    rw[show decide (n=1∨n=2)=decide (n=2) from decide_eq_decide.2 ⟨fun x=>x.resolve_left h1,Or.inr⟩];by_cases h0:n=2<;>simp[h0]
   clear h1;generalize decide (n=1∨n=2)=d at*;go_enter Tryz.func222,Tryz.ntmps222;go_wp2_with fail;go_ret;exact⟨rfl,rfl⟩
theorem forder_self (x:Nat) (hx:F64 x) (hd:fdelay x=true):(forder (fplain x) x==0)=decide (fplain x=x):=by
 have hn:fnan x=false:=by
  unfold fdelay at hd;simp only[Bool.and_eq_true,Bool.not_eq_true'] at hd;exact hd.1
 unfold fplain;rw[hn];simp only[Bool.false_eq_true,if_false];by_cases h0:x=9223372036854775808
 · subst h0;decide+kernel
 · rw[if_neg h0,decide_eq_true rfl];simp[forder]
theorem scopeRight_of (n q oc dp : Int) (ex : Nat) (hx : F64 ex) (ea : Int → Addr) (w : World) (h : EnvS ea w) :
    Calls Tryz.prog 133 #[.agg #[n,q,oc,dp,flV ex]] w (Makes (.bool (ctxOk n q oc dp ex)) w):=by
 have HK:=qq (Blk.fresh w #[n,q,oc,dp,flV ex] 48 _ rfl);have HB:=qq ((Below.refl w.heap.size w).alloc (Nat.le_refl _) (.cells #[n,q,oc,dp,flV ex] 48));have HE:=qq (h.below HB.out);have HO:=qq (fun W=>forder_of (fplain ex) ex (by unfold fplain;split<;>(try split)<;>first | exact hx | (unfold F64;omega)) hx W);have HI:=qq (fun W hW=>idRight_of n q ea W hW);have HU:=qq (fun W=>isOutcome_of oc W)
 unfold ctxOk
 cases hd:fdelay ex with
 | false=>
  have HD:=qq (fun W (hW:EnvS ea W)=>delay_no ex hx hd (ea 4) W hW.e.e4);clear h hd;go_enter Tryz.func133,Tryz.ntmps133;go_wp2_with fail;refine(HD.out _ HE.out).mono ?_;rintro e w1 ⟨rfl,hb1⟩;go_wp2_with fail;go_ret;exact⟨rfl,below_then HB.out hb1⟩
 | true=>
  have HD:=qq (fun W=>delay_yes ex hx hd W);have hf:=forder_self ex hx hd;clear h hd;obtain⟨o,ho⟩:∃o,o=forder (fplain ex) ex:=⟨_,rfl⟩
  rw[←ho] at HO hf;clear ho;obtain⟨qc,fc⟩:=HK.out.out;by_cases h1:fplain ex=ex
  · rw[decide_eq_true h1] at hf⊢;clear h1
    cases hi:idOk n q
    all_goals rw[hi] at HI
    · clear hi;go_enter Tryz.func133,Tryz.ntmps133;go_wp2_with fail;refine(HD.out _).mono ?_;rintro e w1 ⟨rfl,rfl⟩;go_wp2_with fail;refine(HO.out _).mono ?_;rintro e w1 ⟨rfl,rfl⟩;go_wp2_with fail;refine(HI.out _ HE.out).mono ?_;rintro e w1 ⟨rfl,hb1⟩;clear qc fc;obtain⟨qc,fc⟩:=(HK.out.below hb1).out;go_wp2_with fail;go_ret
      first | exact⟨rfl,below_then HB.out hb1⟩ | exact⟨ret_bool (by simp;omega),below_then HB.out hb1⟩
    · clear hi;by_cases h2:oc=1∨oc=2
      · rw[decide_eq_true h2] at HU;by_cases h3:0≤dp
        · by_cases h4:dp≤3
          · rw[decide_eq_true ⟨h2,h3,h4⟩];clear h2;go_enter Tryz.func133,Tryz.ntmps133;go_wp2_with fail;refine(HD.out _).mono ?_;rintro e w1 ⟨rfl,rfl⟩;go_wp2_with fail;refine(HO.out _).mono ?_;rintro e w1 ⟨rfl,rfl⟩;go_wp2_with fail;refine(HI.out _ HE.out).mono ?_;rintro e w1 ⟨rfl,hb1⟩;clear qc fc;obtain⟨qc,fc⟩:=(HK.out.below hb1).out;go_wp2_with fail;refine(HU.out _).mono ?_;rintro e w2 ⟨rfl,rfl⟩
            go_wp2_with fail;go_ret
            first | exact⟨rfl,below_then HB.out hb1⟩ | exact⟨ret_bool (by simp;omega),below_then HB.out hb1⟩
          · rw[decide_eq_false (fun h=>h4 h.2.2)];clear h2;go_enter Tryz.func133,Tryz.ntmps133;go_wp2_with fail;refine(HD.out _).mono ?_;rintro e w1 ⟨rfl,rfl⟩;go_wp2_with fail;refine(HO.out _).mono ?_;rintro e w1 ⟨rfl,rfl⟩;go_wp2_with fail;refine(HI.out _ HE.out).mono ?_;rintro e w1 ⟨rfl,hb1⟩;clear qc fc;obtain⟨qc,fc⟩:=(HK.out.below hb1).out;go_wp2_with fail;refine(HU.out _).mono ?_
            rintro e w2 ⟨rfl,rfl⟩;go_wp2_with fail;go_ret
            first | exact⟨rfl,below_then HB.out hb1⟩ | exact⟨ret_bool (by simp;omega),below_then HB.out hb1⟩
        · rw[decide_eq_false (fun h=>h3 h.2.1)];clear h2;go_enter Tryz.func133,Tryz.ntmps133;go_wp2_with fail;refine(HD.out _).mono ?_;rintro e w1 ⟨rfl,rfl⟩;go_wp2_with fail;refine(HO.out _).mono ?_;rintro e w1 ⟨rfl,rfl⟩;go_wp2_with fail;refine(HI.out _ HE.out).mono ?_;rintro e w1 ⟨rfl,hb1⟩;clear qc fc;obtain⟨qc,fc⟩:=(HK.out.below hb1).out;go_wp2_with fail;refine(HU.out _).mono ?_
          rintro e w2 ⟨rfl,rfl⟩;go_wp2_with fail;go_ret
          first | exact⟨rfl,below_then HB.out hb1⟩ | exact⟨ret_bool (by simp;omega),below_then HB.out hb1⟩
      · rw[decide_eq_false h2] at HU;rw[decide_eq_false (fun h=>h2 h.1)];clear h2;go_enter Tryz.func133,Tryz.ntmps133;go_wp2_with fail;refine(HD.out _).mono ?_;rintro e w1 ⟨rfl,rfl⟩;go_wp2_with fail;refine(HO.out _).mono ?_;rintro e w1 ⟨rfl,rfl⟩;go_wp2_with fail;refine(HI.out _ HE.out).mono ?_;rintro e w1 ⟨rfl,hb1⟩;clear qc fc;obtain⟨qc,fc⟩:=(HK.out.below hb1).out;go_wp2_with fail
        refine(HU.out _).mono ?_;rintro e w2 ⟨rfl,rfl⟩;go_wp2_with fail;go_ret
        first | exact⟨rfl,below_then HB.out hb1⟩ | exact⟨ret_bool (by simp;omega),below_then HB.out hb1⟩
  · rw[decide_eq_false h1] at hf⊢;clear h1;go_enter Tryz.func133,Tryz.ntmps133;go_wp2_with fail;refine(HD.out _).mono ?_;rintro e w1 ⟨rfl,rfl⟩;go_wp2_with fail;refine(HO.out _).mono ?_;rintro e w1 ⟨rfl,rfl⟩;go_wp2_with fail;go_ret;exact⟨rfl,HB.out⟩
open Go.RowKit Go.Shelf
theorem bits_of (x:Nat) (hx:F64 x) (w:World):Calls Tryz.prog 217 #[flV x] w (Gives (.int .u64 (fplain x:Nat)) w):=by
 have HP:=qq (fun W=>plain_of x hx W);have hb:=bits_run (fplain x);go_enter Tryz.func217,Tryz.ntmps217;go_wp2_with fail;refine(HP.out _).mono ?_;rintro e w1 ⟨rfl,rfl⟩;go_wp2_with fail;go_ret;exact⟨rfl,rfl⟩
theorem fl0 (d:Nat) (w:World):(Op.equalIn (d+1) 37 (.float .f64 0) (.float .f64 0)).run Tryz.prog w=.ok true w:=by
 have hz:Op.floatEq FloatKind.f64 0 0=true:=by kernel_rfl
 simp[Op.equalIn,run_underlying Tryz.underlying37,hz]
theorem fl00 (w:World):(Op.equalIn 9999 37 (.float .f64 0) (.float .f64 0)).run Tryz.prog w=.ok true w:=fl0 9998 w
theorem factEq (T : TypeId) (hT : T = 39) (a0 a1 a2 a3 a4 a5 a6 a7 a8 a9 a10 a11 a12 b0 b1 b2 b3 b4 b5 b6 b7 b8 b9 b10 b11 b12 : Int) (w : World) :
    (binOp .eql T (.agg #[a0,a1,a2,a3,a4,a5,a6,a7,a8,a9,a10,a11,a12,.float .f64 0]) (.agg #[b0,b1,b2,b3,b4,b5,b6,b7,b8,b9,b10,b11,b12,.float .f64 0])).run Tryz.prog w=.ok (.bool (a0==b0 && (a1==b1 && (a2==b2 && (a3==b3 && (a4==b4 && (a5==b5 && (a6==b6 && (a7==b7 && (a8==b8 && (a9==b9 && (a10==b10 && (a11==b11 && (a12==b12)))))))))))))) w:=by
 subst hT;have hz:=fl00;go_simp;by_cases h0:a0=b0
 · rw[if_pos h0,beq_iff_eq.2 h0];by_cases h1:a1=b1
   · rw[if_pos h1,beq_iff_eq.2 h1];by_cases h2:a2=b2
     · rw[if_pos h2,beq_iff_eq.2 h2];by_cases h3:a3=b3
       · rw[if_pos h3,beq_iff_eq.2 h3];by_cases h4:a4=b4
         · rw[if_pos h4,beq_iff_eq.2 h4];by_cases h5:a5=b5
           · rw[if_pos h5,beq_iff_eq.2 h5];by_cases h6:a6=b6
             · rw[if_pos h6,beq_iff_eq.2 h6];by_cases h7:a7=b7
               · rw[if_pos h7,beq_iff_eq.2 h7];by_cases h8:a8=b8
                 · rw[if_pos h8,beq_iff_eq.2 h8];by_cases h9:a9=b9
                   · rw[if_pos h9,beq_iff_eq.2 h9];by_cases h10:a10=b10
                     · rw[if_pos h10,beq_iff_eq.2 h10];by_cases h11:a11=b11
                       · rw[if_pos h11,beq_iff_eq.2 h11];by_cases h12:a12=b12<;>simp[h12]
                       · simp[h11]
                     · simp[h10]
                   · simp[h9]
                 · simp[h8]
               · simp[h7]
             · simp[h6]
           · simp[h5]
         · simp[h4]
       · simp[h3]
     · simp[h2]
   · simp[h1]
 · simp[h0]
end Go.Proofs.YtlkajejbfojkeaaGreatDoor
