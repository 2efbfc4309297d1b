/- StoG, FbR, FbS, PaB, BuA, StepR, FbI, FbJ, FbG, FbH, FbT -/
import Derived.Test.YtlkajejbfojkeaaGreatDoorKQq
import Derived.Test.YtlkajejbfojkeaaGreatDoorKStepToStoR
import Derived.Test.YtlkajejbfojkeaaGreatDoorRows
import Derived.WalkKit
import Derived.WalkSpells
import Derived.WalkLawsBesides
import Derived.BigQuiet
import Derived.Deep.QuietTactic
import Derived.StillTailTactics
import Derived.Handy
import Derived.Lib.Hide
import Derived.Test.YtlkajejbfojkeaaGreatDoorKStoUToFacI
import Derived.Test.YtlkajejbfojkeaaGreatDoorKFacDToStoC
import Derived.Laws.Tables
import Derived.Test.YtlkajejbfojkeaaGreatDoorKStoSToRfcA
import Derived.Test.YtlkajejbfojkeaaGreatDoorKRfcBToStepR
import Derived.Test.YtlkajejbfojkeaaGreatDoorKFacB
import Derived.Test.YtlkajejbfojkeaaGreatDoorKLoSToFbF
set_option linter.unusedSimpArgs false
set_option linter.unusedVariables false
set_option maxRecDepth 100000
set_option maxHeartbeats 16000000
namespace Go.Proofs.YtlkajejbfojkeaaGreatDoor
theorem ctxOk_oc {n q oc dp:Int} {ex:Nat} (h:ctxOk n q oc dp ex=true):(oc=1∨oc=2)∧0≤dp∧dp≤3:=by
 unfold ctxOk at h;simp only[Bool.and_eq_true,decide_eq_true_eq] at h;exact h.2
theorem mright_all {x:MSeat} (h:mRight x=true):(x.p=1∨x.p=2)∧(x.d=1∨x.d=2)∧(1≤x.s∧x.s≤14)∧(x.s=14→x.h=1∨4≤x.h∧x.h≤8)∧(x.s≠14→x.h=0):=by
 unfold mRight rWait at h;rw[Bool.and_eq_true,decide_eq_true_iff] at h;obtain⟨h1,h2⟩:=h;have hs:rSide x.p x.d=true:=by
  cases hq:rSide x.p x.d with
  | true=>rfl
  | false=>rw[if_pos hq] at h1;simp at h1
 rw[if_neg (by rw[hs];simp)] at h1;have hh:rHas x.p x.d x.s=true:=by
  cases hq:rHas x.p x.d x.s with
  | true=>rfl
  | false=>rw[if_pos hq] at h1;simp at h1
 unfold rSide at hs;unfold rHas at hh;simp only[decide_eq_true_iff] at hs hh;refine⟨by omega,by omega,by omega,fun he=> ?_,fun he=> ?_⟩
 · rw[if_pos he] at h2;simp at h2;omega
 · rw[if_neg he] at h2;simpa using h2
def sgo:Sto→List SFact→Option Sto
 | S,[]=>some S
 | S,f::t=>if(sapply S f).2=0 then sgo (sapply S f).1 t else none
theorem sgo_cons {S T:Sto} {f:SFact} {t:List SFact} (hf:fok f=true) (hp:sput S f=some T):sgo S (f::t)=sgo T t:=by
 have h:sapply S f=(T,0):=by unfold sapply;rw[if_neg (by rw[hf];simp),hp]
 show(if(sapply S f).2=0 then sgo (sapply S f).1 t else none)=_
 rw[h,if_pos rfl]
def partF (i:Int) (p:SPart):List SFact:=
 ⟨6,p.an,p.aq,0,0,i,p.seat.p,0,0,0,0,0,0,0⟩::((if p.rg= -1 then[] else[⟨7,0,0,p.rg,0,i,0,0,0,0,0,0,0,0⟩]) ++(if p.seat.s=1 then[] else[⟨8,0,0,0,0,i,0,0,0,0,p.seat.s,p.seat.h,0,0⟩]))
def partsF:Nat→List SPart→List SFact
 | _,[]=>[]
 | i,p::t=>partF i p ++partsF (i+1) t
def enrF (a:SAct):Nat→List SReg→List SFact
 | _,[]=>[]
 | i,r::t=>⟨2,a.an,a.aq,i,r.n,r.p,r.seat.p,0,0,0,0,0,0,0⟩::enrF a (i+1) t
def seatF (a:SAct):Nat→List SReg→List SFact
 | _,[]=>[]
 | i,r::t=>(if r.seat.s=1 then[] else[⟨3,a.an,a.aq,i,0,0,0,0,0,0,r.seat.s,r.seat.h,0,0⟩]) ++seatF a (i+1) t
def actF (a:SAct):List SFact:=
 ⟨1,a.an,a.aq,0,0,0,0,a.oc,a.dp,a.pa,0,0,0,a.ex⟩::(enrF a 0 a.regs ++(seatF a 0 a.regs ++(if a.de=0 then[] else[⟨4,a.an,a.aq,0,0,0,0,0,0,0,0,0,a.de,0⟩])))
def lastF (S:Sto):List SFact:=
 if 0<S.next∧sfind S S.node (S.next - 1)=none then[⟨1,S.node,S.next - 1,0,0,0,0,1,0,0,0,0,0,0⟩,⟨5,S.node,S.next - 1,0,0,0,0,0,0,0,0,0,0,0⟩] else[]
def sfacts (S:Sto):List SFact:=partsF 0 S.parts ++(S.acts.flatMap actF ++lastF S)
theorem set_last {α:Type} (l:List α) (x y:α):(l ++ [x]).set l.length y=l ++ [y]:=by
 rw[List.set_append_right _ _ (Nat.le_refl _)];simp
theorem get_last {α:Type} (l:List α) (x:α):(l ++ [x])[l.length]? =some x:=by simp
theorem sgo_part {S:Sto} {p:SPart} (t:List SFact) (hp:PGood p) (hl:S.parts.length<8):sgo S (partF S.parts.length p ++t)=sgo {S with parts:=S.parts ++ [p]} t:=by
 obtain⟨an,aq,rg,⟨sp,sd,ss,sh⟩⟩:=p;obtain⟨h1,h2,h3,h4⟩:=hp;obtain⟨m1,_,m3,m4,m5⟩:=mright_all h4;dsimp only at*;subst h3;have hi0:(0:Int)≤(S.parts.length:Int):=by omega
 unfold partF;rw[List.cons_append,sgo_cons (T:={S with parts:=S.parts ++ [⟨an,aq,-1,⟨sp,2,1,0⟩⟩]}) (by
   unfold fok;simp only[h1];simp;omega) (by unfold sput;simp)]
 have hst:stOk ss sh=true:=by
  unfold stOk;split
  · rename_i he;have:=m4 he;simpa using this
  · rename_i he;have:=m5 he;simp;omega
 have seat1:ss=1→(⟨sp,2,1,0⟩:MSeat)=⟨sp,2,ss,sh⟩:=fun he=>by rw[he,m5 (by omega)]
 rw[List.append_assoc];have turn:∀(rg':Int),sgo {S with parts:=S.parts ++ [⟨an,aq,rg',⟨sp,2,1,0⟩⟩]} ((if ss=1 then[] else[⟨8,0,0,0,0,(S.parts.length:Int),0,0,0,0,ss,sh,0,0⟩]) ++t)=sgo {S with parts:=S.parts ++ [⟨an,aq,rg',⟨sp,2,ss,sh⟩⟩]} t:=fun rg'=>by
  by_cases he:ss=1
  · rw[if_pos he,seat1 he];rfl
  · rw[if_neg he];refine sgo_cons ?_ ?_
    · unfold fok;simp[hst];omega
    · unfold sput;simp only[Int.toNat_natCast,get_last,set_last];simp[sturn,h4]
 by_cases hr:rg= -1
 · subst hr;rw[if_pos rfl];exact turn (-1)
 · rw[if_neg hr];rw[List.cons_append,List.nil_append,sgo_cons (T:={S with parts:=S.parts ++ [⟨an,aq,rg,⟨sp,2,1,0⟩⟩]}) ?_ ?_]
   · exact turn rg
   · unfold fok;simp;omega
   · unfold sput;simp only[Int.toNat_natCast,get_last,set_last];simp
theorem sgo_parts:∀(ps:List SPart) (S:Sto) (t:List SFact),(∀p∈ps,PGood p)→S.parts.length+ps.length≤8→sgo S (partsF S.parts.length ps ++t)=sgo {S with parts:=S.parts ++ps} t
 | [],S,t,_,_=>by simp[partsF]
 | p::ps,S,t,hp,hl=>by
  have hl':S.parts.length+(ps.length+1)≤8:=by simpa using hl
  unfold partsF;rw[List.append_assoc,sgo_part _ (hp p (by simp)) (by omega)];have h:=sgo_parts ps {S with parts:=S.parts ++ [p]} t (fun q hq=>hp q (by simp[hq])) (by simp;omega);simp only[List.length_append,List.length_cons,List.length_nil,Nat.zero_add,List.append_assoc,List.cons_append,List.nil_append] at h;exact h
theorem stOk_right {x:MSeat} (h:mRight x=true):stOk x.s x.h=true:=by
 obtain⟨_,_,m3,m4,m5⟩:=mright_all h;unfold stOk;split
 · rename_i he;have:=m4 he;simpa using this
 · rename_i he;have:=m5 he;simp;omega
def plus (S:Sto) (b:SAct) (nx:Int):Sto:={S with next:=nx,acts:=S.acts ++ [b]}
theorem sfind_last {S:Sto} {b:SAct} {nx:Int} (h:∀c∈S.acts,c.aq<b.aq):sfind (plus S b nx) b.an b.aq=some S.acts.length:=by
 unfold sfind plus;rw[List.findIdx?_append];have h0:S.acts.findIdx? (fun a=>decide (a.an=b.an∧a.aq=b.aq))=none:=by
  rw[List.findIdx?_eq_none_iff];intro c hc;have:=h c hc;simp;omega
 rw[h0];simp
theorem sgo_step {S:Sto} {b b':SAct} {nx:Int} {f:SFact} {t:List SFact} (h:∀c∈S.acts,c.aq<b.aq) (hf:fok f=true) (hk:f.k=2∨f.k=3∨f.k=4) (hn:f.an=b.an) (hq:f.aq=b.aq) (hs:sact b f=some b'):sgo (plus S b nx) (f::t)=sgo (plus S b' nx) t:=by
 refine sgo_cons hf ?_;have hfi:=sfind_last (nx:=nx) h;rw[←hn,←hq] at hfi;unfold sput;rw[if_neg (by omega),if_neg (by omega),if_neg (by omega),hfi];have hg:(plus S b nx).acts[S.acts.length]? =some b:=get_last _ _;simp only[hg];rw[if_neg (by omega),hs];simp only[Option.map_some];congr 1;unfold plus;simp only[set_last]
def fresh (r:SReg):SReg:=⟨r.n,r.p,⟨r.seat.p,1,1,0⟩⟩
theorem fresh_seat {r:SReg} (hd:r.seat.d=1) (hm:mRight r.seat=true) (h1:r.seat.s=1):fresh r=r:=by
 obtain⟨n,p,⟨sp,sd,ss,sh⟩⟩:=r;obtain⟨_,_,_,_,m5⟩:=mright_all hm;dsimp only at*;subst hd h1;unfold fresh;rw[m5 (by omega)]
theorem sgo_enr {S : Sto} {a : SAct} {nx : Int} (h : ∀ c ∈ S.acts, c.aq < a.aq) (hid : idOk a.an a.aq = true) (t : List SFact) : ∀ (rs rs0 : List SReg), (∀ r ∈ rs, 0 ≤ r.n ∧ r.n ≤ 3 ∧ 0 ≤ r.p ∧ r.p ≤ 7 ∧ r.seat.d = 1 ∧ mRight r.seat = true) → ((rs0 ++ rs).Pairwise fun r t => ¬ (r.n = t.n ∧ r.p = t.p)) → rs0.length + rs.length ≤ 6 →
    sgo (plus S {a with de:=0,regs:=rs0.map fresh} nx) (enrF a rs0.length rs ++t)=sgo (plus S {a with de:=0,regs:=(rs0 ++rs).map fresh} nx) t
 | [],rs0,_,_,_=>by simp[enrF]
 | r::rs,rs0,hr,hp,hl=>by
  have hl':rs0.length+(rs.length+1)≤6:=by simpa using hl
  obtain⟨r1,r2,r3,r4,r5,r6⟩:=hr r (by simp);obtain⟨m1,_⟩:=mright_all r6;unfold enrF;rw[List.cons_append,sgo_step (b':={a with de:=0,regs:=(rs0 ++ [r]).map fresh}) (by exact h) ?_ (.inl rfl) rfl rfl ?_]
  · have ih:=sgo_enr (nx:=nx) h hid t rs (rs0 ++ [r]) (fun q hq=>hr q (by simp[hq])) (by simpa using hp) (by simp;omega);simp only[List.length_append,List.length_cons,List.length_nil,Nat.zero_add,List.append_assoc,List.cons_append,List.nil_append] at ih;exact ih
  · unfold fok;simp[hid];omega
  · unfold sact;rw[if_pos rfl,if_neg]
    · simp[fresh]
    · rintro(e | e | e)
      · simp at e
      · exact e rfl
      · simp only[List.any_map,List.any_eq_true,Function.comp_apply,decide_eq_true_iff] at e;obtain⟨q,hq,e1⟩:=e;rw[List.pairwise_append] at hp;exact hp.2.2 q hq r (by simp) e1
theorem sgo_seat {S : Sto} {a : SAct} {nx : Int} (h : ∀ c ∈ S.acts, c.aq < a.aq) (hid : idOk a.an a.aq = true) (t : List SFact) : ∀ (rs rs0 : List SReg), (∀ r ∈ rs, r.seat.d = 1 ∧ mRight r.seat = true) → rs0.length + rs.length ≤ 6 →
    sgo (plus S {a with de:=0,regs:=rs0 ++rs.map fresh} nx) (seatF a rs0.length rs ++t)=sgo (plus S {a with de:=0,regs:=rs0 ++rs} nx) t
 | [],rs0,_,_=>by simp[seatF]
 | r::rs,rs0,hr,hl=>by
  have hl':rs0.length+(rs.length+1)≤6:=by simpa using hl
  obtain⟨r5,r6⟩:=hr r (by simp);have ih:=sgo_seat (nx:=nx) h hid t rs (rs0 ++ [r]) (fun q hq=>hr q (by simp[hq])) (by simp;omega);simp only[List.length_append,List.length_cons,List.length_nil,Nat.zero_add,List.append_assoc,List.cons_append,List.nil_append] at ih;unfold seatF;by_cases h1:r.seat.s=1
  · rw[if_pos h1,List.nil_append,List.map_cons,fresh_seat r5 r6 h1];exact ih
  · rw[if_neg h1,List.append_assoc,List.cons_append,List.nil_append,sgo_step (b':={a with de:=0,regs:=rs0 ++r::rs.map fresh}) (by exact h) ?_ (.inr (.inl rfl)) rfl rfl ?_]
    · exact ih
    · unfold fok;simp[hid,stOk_right r6];omega
    · unfold sact;rw[if_neg (show ¬(3:Int)=2 by decide),if_pos rfl];simp only[Int.toNat_natCast,List.map_cons];rw[List.getElem?_append_right (Nat.le_refl _)];simp only[Nat.sub_self,List.getElem?_cons_zero];have hst:sturn (fresh r).seat r.seat.s r.seat.h=some r.seat:=by
       obtain⟨n,p,⟨sp,sd,ss,sh⟩⟩:=r;dsimp only at*;subst r5;simp[sturn,fresh,r6]
      rw[hst];simp[fresh]
theorem sgo_act {S:Sto} {a:SAct} (t:List SFact) (np:Nat) (nx:Int) (hA:AGood S.node nx np a) (hn:S.next≤a.aq) (hlt:∀c∈S.acts,c.aq<a.aq) (hl:S.acts.length<8) (hnp:np=S.parts.length) (hnp8:np≤8) (hc:0<a.pa→∀c∈S.acts,c.pa≠a.pa):sgo S (actF a ++t)=sgo (plus S a (a.aq+1)) t:=by
 have hid:=ctxOk_id hA.ctx;have hidk:idOk a.an a.aq=true:=(idOk_iff _ _).2 hid;unfold actF;rw[List.cons_append,sgo_cons (T:=plus S {a with de:=0,regs:=[]} (a.aq+1)) ?_ ?_]
 · have h1:=sgo_enr (S:=S) (nx:=a.aq+1) hlt hidk ((seatF a 0 a.regs ++(if a.de=0 then[] else[⟨4,a.an,a.aq,0,0,0,0,0,0,0,0,0,a.de,0⟩])) ++t) a.regs [] hA.reg (by simpa using hA.once) (by simpa using hA.len)
   have h2:=sgo_seat (S:=S) (nx:=a.aq+1) hlt hidk ((if a.de=0 then[] else[⟨4,a.an,a.aq,0,0,0,0,0,0,0,0,0,a.de,0⟩]) ++t) a.regs [] (fun r hr=>⟨(hA.reg r hr).2.2.2.2.1,(hA.reg r hr).2.2.2.2.2⟩) (by simpa using hA.len);simp only[List.map_nil,List.length_nil,List.nil_append,List.append_assoc] at h1 h2⊢;rw[h1,h2];by_cases hd:a.de=0
   · rw[if_pos hd,List.nil_append];obtain⟨an,aq,oc,dp,ex,pa,de,regs⟩:=a;dsimp only at hd;subst hd;rfl
   · rw[if_neg hd,List.cons_append,List.nil_append,sgo_step (b':=a) (by exact hlt) ?_ (.inr (.inr rfl)) rfl rfl ?_]
     · have:=hA.de;unfold fok;simp[hidk];omega
     · have:=hA.de;unfold sact;rw[if_neg (show ¬(4:Int)=2 by decide),if_neg (show ¬(4:Int)=3 by decide),if_neg (by simp;omega)]
 · have:=hA.pa;unfold fok;simp only[hA.ctx];simp;omega
 · have h3:=hA.id;have h4:=hA.pa;unfold sput;rw[if_pos rfl,if_neg]
   · rfl
   · rintro(e | e | e | ⟨e,e2⟩)
     · exact e hA.id.1
     · dsimp only at e;omega
     · omega
     · dsimp only at e e2;rcases e2 with e2 | e2
       · omega
       · have hs:schild S a.pa=none:=by
          unfold schild;rw[List.findIdx?_eq_none_iff];intro c hcc;simpa using hc e c hcc
         rw[hs] at e2
         cases e2
def SRoom (S:Sto):Prop:=0<S.next→sfind S S.node (S.next - 1)=none→S.acts.length<8
theorem sfind_none {S:Sto} {n q:Int} (h:sfind S n q=none):∀a∈S.acts,¬(a.an=n∧a.aq=q):=by
 unfold sfind at h;rw[List.findIdx?_eq_none_iff] at h;intro a ha e;have:=h a ha;simp[e.1,e.2] at this
def nextOf (z:Int):List SAct→Int
 | []=>z
 | a::t=>nextOf (a.aq+1) t
theorem sgo_acts : ∀ (az : List SAct) (S : Sto) (nx : Int) (t : List SFact), (∀ a ∈ az, AGood S.node nx S.parts.length a) → (∀ a ∈ az, S.next ≤ a.aq) → (S.acts ++ az).Pairwise (fun a b => a.aq < b.aq) → (S.acts ++ az).Pairwise (fun a b => 0 < a.pa → a.pa ≠ b.pa) → S.acts.length + az.length ≤ 8 → S.parts.length ≤ 8 →
    sgo S (az.flatMap actF ++t)=sgo {S with next:=nextOf S.next az,acts:=S.acts ++az} t
 | [],S,nx,t,_,_,_,_,_,_=>by simp[nextOf]
 | a::az,S,nx,t,hA,hn,hs,hc,hl,hp=>by
  have hl':S.acts.length+(az.length+1)≤8:=by simpa using hl
  have hs2:=List.pairwise_append.1 hs;have hc2:=List.pairwise_append.1 hc;rw[List.flatMap_cons,List.append_assoc,sgo_act (S:=S) _ S.parts.length nx (hA a (by simp)) (hn a (by simp)) (fun c hc'=>hs2.2.2 c hc' a (by simp)) (by omega) rfl hp (fun hpa c hc' e=>by
    have:=hc2.2.2 c hc' a (by simp) (by rw[e];exact hpa);exact this e)]
  have ih:=sgo_acts az (plus S a (a.aq+1)) nx t (fun b hb=>hA b (by simp[hb])) (fun b hb=>by
    have:=(List.pairwise_cons.1 hs2.2.1).1 b hb;show a.aq+1≤b.aq
    omega) (by simpa[plus] using hs) (by simpa[plus] using hc) (by simp[plus];omega) hp
  rw[ih];simp[plus,nextOf]
theorem nextOf_last:∀(az:List SAct) (z:Int) (n:Int),az.Pairwise (fun a b=>a.aq<b.aq)→(∀a∈az,a.aq<n)→(az=[]→z=n)→(az≠[]→∃a∈az,a.aq=n - 1)→nextOf z az=n
 | [],z,n,_,_,h,_=>h rfl
 | [a],z,n,_,_,_,h=>by
  obtain⟨b,hb,he⟩:=h (by simp);obtain rfl:=List.mem_singleton.1 hb;show b.aq+1=n
  omega
 | a::b::t,z,n,hs,hlt,_,h=>by
  have hs2:=List.pairwise_cons.1 hs;refine nextOf_last (b::t) (a.aq+1) n hs2.2 (fun c hc=>hlt c (by simp[hc])) (fun e=>by simp at e) (fun _=> ?_);obtain⟨c,hc,he⟩:=h (by simp);rcases List.mem_cons.1 hc with rfl | hc
  · have h1:=hs2.1 b (by simp);have h2:=hlt b (by simp);omega
  · exact⟨c,hc,he⟩
theorem nextOf_le:∀(az:List SAct) (z n:Int),z≤n→(∀a∈az,a.aq<n)→nextOf z az≤n
 | [],z,n,h,_=>h
 | a::t,z,n,_,h=>nextOf_le t (a.aq+1) n (by have:=h a (by simp);omega) (fun b hb=>h b (by simp[hb]))
theorem sgo_sfacts {S:Sto} (hG:StoGood S) (hr:SRoom S):sgo ⟨S.node,0,[],[]⟩ (sfacts S)=some S:=by
 unfold sfacts;have h1:=sgo_parts S.parts ⟨S.node,0,[],[]⟩ (S.acts.flatMap actF ++lastF S) hG.part (by simpa using hG.parts);simp only[List.length_nil,List.nil_append] at h1;rw[h1];have h2:=sgo_acts S.acts ⟨S.node,0,[],S.parts⟩ S.next (lastF S) hG.act (fun a ha=>(hG.act a ha).id.2.1) (by simpa using hG.sorted) (by simpa using hG.child) (by simpa using hG.acts) hG.parts
 simp only[List.nil_append] at h2;rw[h2];unfold lastF;by_cases h:0<S.next∧sfind S S.node (S.next - 1)=none
 · rw[if_pos h];have hno:=sfind_none h.2;have hnd:=hG.node;have hnx:=hG.next;have hlast:∀a∈S.acts,a.aq<S.next - 1:=fun a ha=>by
    have h3:=(hG.act a ha).id;have h4:=hno a ha;have:¬a.aq=S.next - 1:=fun e=>h4 ⟨h3.1,e⟩
    omega
   have hle:=nextOf_le S.acts 0 (S.next - 1) (by omega) hlast;have hid:idOk S.node (S.next - 1)=true:=(idOk_iff _ _).2 (by omega);rw[sgo_cons (T:=plus S ⟨S.node,S.next - 1,1,0,0,0,0,[]⟩ S.next) ?_ ?_]
   · rw[sgo_cons (T:=S) ?_ ?_]
     · rfl
     · unfold fok;simp[hid]
     · have hfi:=sfind_last (S:=S) (b:=⟨S.node,S.next - 1,1,0,0,0,0,[]⟩) (nx:=S.next) hlast;have hg:(plus S ⟨S.node,S.next - 1,1,0,0,0,0,[]⟩ S.next).acts[S.acts.length]? =some ⟨S.node,S.next - 1,1,0,0,0,0,[]⟩:=get_last _ _;unfold sput;rw[if_neg (show ¬(5:Int)=1 by decide),if_neg (show ¬(5:Int)=6 by decide),if_neg (show ¬((5:Int)=7∨(5:Int)=8) by decide)];dsimp only at hfi⊢;rw[hfi];simp only[hg]
       simp[plus]
   · have hctx:ctxOk S.node (S.next - 1) 1 0 0=true:=by
      unfold ctxOk;rw[hid];decide+kernel
     unfold fok;simp only[hctx];simp
   · unfold sput;rw[if_pos rfl,if_neg]
     · simp[plus]
     · rintro(e | e | e | ⟨e,_⟩)
       · exact e rfl
       · dsimp only at e;omega
       · have:=hr h.1 h.2;dsimp only at e;omega
       · dsimp only at e;omega
 · rw[if_neg h];have hnx:=hG.next;have hn:nextOf 0 S.acts=S.next:=by
    refine nextOf_last S.acts 0 S.next hG.sorted (fun a ha=>(hG.act a ha).id.2.2) (fun he=> ?_) (fun _=> ?_)
    · by_cases h0:0<S.next
      · exact absurd ⟨h0,by unfold sfind;rw[he];rfl⟩ h
      · omega
    · by_cases h0:0<S.next
      · cases hq:sfind S S.node (S.next - 1) with
        | none=>exact absurd ⟨h0,hq⟩ h
        | some i=>
         unfold sfind at hq;obtain⟨hi,h1,_⟩:=List.findIdx?_eq_some_iff_getElem.1 hq;simp at h1;exact⟨_,List.getElem_mem hi,h1.2⟩
      · rename_i hne
        obtain⟨a,ha⟩:=List.exists_mem_of_ne_nil _ hne;have:=(hG.act a ha).id;omega
   rw[hn];rfl
open Go.RowKit Go.Shelf
attribute [local go_sem] store_float
theorem factL_len (f:SFact):(factL f).length=14:=rfl
theorem factL_one (f:SFact):∀u∈factL f,u.oneCell'=true:=by
 intro u hu;simp only[factL,List.mem_cons,List.not_mem_nil,or_false] at hu;rcases hu with rfl | rfl | rfl | rfl | rfl | rfl | rfl | rfl | rfl | rfl | rfl | rfl | rfl | rfl<;>rfl
open Go.RowKit
theorem read_row {w:World} {B:Nat} {v:Value} {fs:List SFact} (h:w.ownsRow B 39 14 v fs.length (factsL fs)):ReadFacts w v fs∧∀k,sliceBlock v=some k→v.ownBlock=some k:=by
 obtain⟨a,cap,hv⟩:=row_slice h;subst hv;by_cases hn:fs=[]
 · subst hn;rcases h.2 with⟨hv,_⟩ | ⟨g,cap',cur,hv,_⟩
   · cases hv
     exact⟨⟨none,0,rfl,fun h=>absurd rfl h⟩,by simp[sliceBlock]⟩
   · simp only[Value.slice.injEq] at hv;obtain⟨rfl,_,rfl⟩:=hv;exact⟨⟨_,_,rfl,fun h=>absurd rfl h⟩,fun k hk=>by simpa[sliceBlock,Value.ownBlock] using hk⟩
 · obtain⟨g,cap',hv,_,_,hg,hc,_⟩:=row_form h (List.length_pos_iff.2 hn);simp only[Value.slice.injEq,true_and] at hv;obtain⟨rfl,rfl⟩:=hv;refine⟨⟨_,_,rfl,fun _=>⟨g,0,rfl,hg,fun j hj=> ?_⟩⟩,fun k hk=>by simpa[sliceBlock,Value.ownBlock] using hk⟩;have hat:=fun i hi=>flat_at factL 14 factL_len fs j i hj hi
   rw[Nat.zero_add]
   exact⟨hc _ _ (hat 0 (by decide)),hc _ _ (hat 1 (by decide)),hc _ _ (hat 2 (by decide)),hc _ _ (hat 3 (by decide)),hc _ _ (hat 4 (by decide)),hc _ _ (hat 5 (by decide)),hc _ _ (hat 6 (by decide)),hc _ _ (hat 7 (by decide)),hc _ _ (hat 8 (by decide)),hc _ _ (hat 9 (by decide)),hc _ _ (hat 10 (by decide)),hc _ _ (hat 11 (by decide)),hc _ _ (hat 12 (by decide)),hc _ _ (hat 13 (by decide))⟩
section
variable {P:Program} {ops:Array Oper} {Q:Exit→Act→World→Prop} {md:Region.Mode} {S:World→Prop}
end
theorem hp_new {w:World} {C:Array Value} {T:TypeId} (n:Nat) (hn:n=w.heap.size):(w.alloc (.cells C T)).heap[n]? =some (.cells C T (0,0)):=by subst hn;exact heap_alloc_new _ _
theorem Blk.gr {w w':World} {b g:Nat} {C:Array Value} (h:Blk w b C) (hg:w.grownBy w' (some g)) (hne:g≠b):Blk w' b C:=h.same hg.size (hg.block _ h.lt (fun e=>hne (by injection e with e;exact e.symm)))
theorem numF_big {d:List Nat} (hb:∀c∈d,c<256) (hl:d.length≤8) (h0:d.head? ≠some 0):numF d=if bval d≤9223372036854775807 then some (bval d) else none:=by
 by_cases h:bval d≤9223372036854775807
 · rw[if_pos h];unfold numF;rw[if_neg h0,if_neg];rintro(h8 | ⟨h8,h9⟩)
   · omega
   · match d,h8,h9 with
     | c::t,h8,h9=>
      simp only[List.length_cons,List.headD_cons] at h8 h9;rw[bval_cons,show t.length=7 by omega] at h;have:128*256 ^ 7≤c*256 ^ 7:=Nat.mul_le_mul_right _ (by omega);have e:(256:Nat) ^ 7=72057594037927936:=by decide
      rw[e] at this h;omega
 · rw[if_neg h]
   cases hq:numF d with
   | none=>rfl
   | some n=>
    have:=numF_lt hq hb;omega
theorem wrap64 {z:Int} (h0:0≤z) (h1:z≤18446744073709551615):IntKind.u64.wrap z=z:=by rw[IntKind.wrap_u64];omega
theorem fldE_three (t a b:Nat) (r:List Nat) (last cnt:Nat):fldE (t::a::b::r) last cnt=if t≤last∨200<a*256+b∨16≤cnt then .error 4 else if r.length<a*256+b then .error 2 else .ok (⟨t,r.take (a*256+b)⟩,r.drop (a*256+b)):=rfl
def rdEnd:Option (SFact×Bool)→Option SFact
 | none=>none
 | some (f,there)=>if there≠decide (f.k=1)∨fok f=false then none else some f
def rdRes (x:Option SFact) (a:Addr):Value:=match x with
 | some f=> .tuple #[factV f,.nilIface]
 | none=> .tuple #[factV fact00,errV a]
theorem rdFact_ok {bs:List Nat} {xs:List Fld} (h:splitE bs.length bs 0 0=.ok xs):rdFact bs=rdEnd (rdAll (fact00,false) xs):=by
 unfold rdFact;rw[h];rfl
theorem rdFact_bad {bs:List Nat} {n:Int} (h:splitE bs.length bs 0 0=.error n):rdFact bs=none:=by
 unfold rdFact;rw[h]
theorem setTag_put (f:SFact) (t:Nat) (n:Int) (h1:1≤t) (h2:t≤13):(factC f).setIfInBounds (t - 1) (.int .i64 n)=factC (setTag f t n):=by
 have:∀j:Fin 13,(factC f).setIfInBounds j.1 (.int .i64 n)=factC (setTag f (j.1+1) n):=by
  intro j
  match j with
  | 0 | 1 | 2 | 3 | 4 | 5 | 6 | 7 | 8 | 9 | 10 | 11 | 12=>rfl
 have h:=this ⟨t - 1,by omega⟩;simp only at h;rw[h,show t - 1+1=t by omega]
theorem setTag_ex (f:SFact) (t:Nat) (n:Int):(setTag f t n).ex=f.ex:=by
 unfold setTag;simp only[apply_ite SFact.ex,ite_self]
theorem put_ex (f:SFact) (u:Nat):(factC f).setIfInBounds 13 (.float .f64 u)=factC {f with ex:=u}:=rfl
theorem fltF_F64 {d:List Nat} {u:Nat} (h:fltF d=some u) (hb:∀c∈d,c<256):F64 u∧d.length=8∧u=bval d∧fplain (bval d)=bval d:=by
 unfold fltF at h;split at h
 · cases h
 · split at h
   · rename_i h1 h2
     injection h with h
     have hl:d.length=8:=by omega
     refine⟨?_,hl,h.symm,h2⟩;have:=bval_lt d hb;rw[hl,h] at this;unfold F64;simpa using this
   · cases h
theorem toflt_some (a:Option Addr) (cap:Nat) (d:List Nat) (u:Nat) (ea:Int→Addr) (w:World) (hE:Errs ea w) (hb:∀c∈d,c<256) (hD:DataC w a d) (h:fltF d=some u):Calls Tryz.prog 206 #[.slice a d.length cap] w (Makes (.tuple #[flV u,.nilIface]) w):=by
 obtain⟨_,hl,he,hp⟩:=fltF_F64 h hb;have:=toflt_of a cap d ea w hE hl hb hD;rw[if_pos hp] at this;rw[hl,he];exact this
theorem toflt_none (a:Option Addr) (cap:Nat) (d:List Nat) (ea:Int→Addr) (w:World) (hE:Errs ea w) (hb:∀c∈d,c<256) (hD:DataC w a d) (h:fltF d=none):Calls Tryz.prog 206 #[.slice a d.length cap] w (Makes (.tuple #[flV 0,errV (ea 4)]) w):=by
 by_cases hl:d.length=8
 · have:=toflt_of a cap d ea w hE hl hb hD;have hp:¬fplain (bval d)=bval d:=fun e=>by unfold fltF at h;rw[if_neg (by omega),if_pos e] at h;cases h
   rw[if_neg hp] at this;rw[hl];exact this
 · exact toflt_len a cap d.length ea w hE hl
def rdNext (t:List Fld):Option (SFact×Bool)→Option (SFact×Bool)
 | none=>none
 | some s=>rdAll s t
theorem rdAll_cons (s:SFact×Bool) (x:Fld) (t:List Fld):rdAll s (x::t)=rdNext t (rdStep s x):=by
 conv=>lhs;unfold rdAll
 cases rdStep s x<;>rfl
theorem rdStep_none {s:SFact×Bool} {x:Fld} {t:List Fld} (h:rdStep s x=none):rdAll s (x::t)=none:=by rw[rdAll_cons,h];rfl
theorem rdStep_some {s s':SFact×Bool} {x:Fld} {t:List Fld} (h:rdStep s x=some s'):rdAll s (x::t)=rdAll s' t:=by rw[rdAll_cons,h];rfl
theorem read_go (a : Option Addr) (bs : List Nat) (cap : Nat) (xs : List Fld) (ea : Int → Addr) (w : World) (hE : EnvS ea w) (hw3 : 3 < w.heap.size) (hB : BytesIn w a cap bs) (hl : bs.length ≤ 900) (hx : splitE bs.length bs 0 0 = .ok xs) :
    Calls Tryz.prog 103 #[.slice a bs.length cap] w (Makes (rdRes (rdFact bs) (ea 4)) w):=by
 obtain⟨rv,hrv⟩:∃v,v=rdRes (rdFact bs) (ea 4):=⟨_,rfl⟩
 rw[←hrv];rw[rdFact_ok hx] at hrv;have HRV:=qq hrv;have HALL:=qq (splitE_all _ _ _ _ _ hx hB.byte (by omega));have HSP:=qq (fun W (hb:Below w.heap.size w W)=>split_ok a bs cap xs ea W (hE.below hb).e (hB.below hb) hl hx);have HEN:=qq (fun W (hb:Below w.heap.size w W)=>hE.below hb);have HPL:=qq (fun fb W=>places_of fb W);simp only[plA] at HPL
 have HT2:Hid ((w.alloc (.cells #[.int .i64 0,.int .i64 0,.int .i64 0,.int .i64 0,.int .i64 0,.int .i64 0,.int .i64 0,.int .i64 0,.int .i64 0,.int .i64 0,.int .i64 0,.int .i64 0,.int .i64 0,.float .f64 0] 39)).heap[w.heap.size]? =some (.cells #[.int .i64 0,.int .i64 0,.int .i64 0,.int .i64 0,.int .i64 0,.int .i64 0,.int .i64 0,.int .i64 0,.int .i64 0,.int .i64 0,.int .i64 0,.int .i64 0,.int .i64 0,.float .f64 0] 39 (0,0))):=qq (heap_alloc_new _ _)
 clear hE hB hx hrv;go_enter Tryz.func103,Tryz.ntmps103;go_wp2_with fail;refine(HSP.out _ (by go_grown)).mono ?_;rintro e w1 ⟨a1,n1,c1,rfl,hrf,hb1⟩;obtain⟨a2,cap2,hv,hr⟩:=hrf;simp only[Value.slice.injEq] at hv;obtain⟨rfl,rfl,rfl⟩:=hv;have HRF:=qq hr;have HT3:=qq (hp_be HT2.out hb1);have HB1:=qq (below_then (show Below w.heap.size w _ from by go_grown) hb1);have hz1:=hb1.size
 simp only[World.size_alloc] at hz1;obtain⟨N,hN⟩:∃n,n=xs.length:=⟨_,rfl⟩
 have HNN:=qq hN;have hN16:N≤16:=by have:=HALL.out.1;omega
 rw[←hN];clear hr hb1 hN HT2;go_wp2_with fail;refine(HPL.out _ _).mono ?_;rintro e w2 ⟨rfl,hb2⟩;obtain⟨fb,hfb⟩:∃n,n=w1.heap.size:=⟨_,rfl⟩
 have HFB:=qq hfb;have HF2:Hid (Blk w2 fb (factC fact00)):=qq (by rw[hfb];exact(Blk.fresh w1 (factC fact00) 39 _ rfl).below hb2);have HT4:=qq (hp_be (hp_al HT3.out (.cells #[.int .i64 0,.int .i64 0,.int .i64 0,.int .i64 0,.int .i64 0,.int .i64 0,.int .i64 0,.int .i64 0,.int .i64 0,.int .i64 0,.int .i64 0,.int .i64 0,.int .i64 0,.float .f64 0] 39)) hb2)
 have HB2:=qq (below_then (bel_alloc HB1.out _) hb2);have HD2:=qq (below_then (bel_alloc (Below.refl w1.heap.size w1) (.cells #[.int .i64 0,.int .i64 0,.int .i64 0,.int .i64 0,.int .i64 0,.int .i64 0,.int .i64 0,.int .i64 0,.int .i64 0,.int .i64 0,.int .i64 0,.int .i64 0,.int .i64 0,.float .f64 0] 39)) hb2);have hz2:=hb2.size;simp only[World.size_alloc] at hz2;rw[←hfb] at hz1 hz2⊢
 have hwz:=HB2.out.size;clear hb2 HT3 HB1 hfb;go_wp2_with fail
 go_loopw [24,8] (fun cc uu wr=>∃(i:Nat) (f:SFact) (b:Bool),i≤N∧cc=.int .i64 (i:Int)∧uu=.bool b∧Hid (rdAll (fact00,false) xs=rdAll (f,b) (xs.drop i))∧Hid (F64 f.ex)∧Hid (wr.heap[w.heap.size]? =some (.cells #[.int .i64 0,.int .i64 0,.int .i64 0,.int .i64 0,.int .i64 0,.int .i64 0,.int .i64 0,.int .i64 0,.int .i64 0,.int .i64 0,.int .i64 0,.int .i64 0,.int .i64 0,.float .f64 0] 39 (0,0)))∧Hid (Blk wr fb (factC f))∧Hid (Blk wr w2.heap.size (plA fb))∧Hid (Below w.heap.size w wr)∧Hid (Below w1.heap.size w1 wr)) (fun cc _ _=>N - (intOf cc).toNat)
 case atStart=>exact⟨0,fact00,false,by omega,by first | rfl | go_num,by first | rfl | trivial,qq rfl,qq (by unfold F64;decide),qq (hp_al HT4.out _),qq (HF2.out.alloc _),qq (Blk.fresh w2 (plA fb) _ _ rfl),qq (bel_alloc HB2.out _),qq (bel_alloc HD2.out _)⟩
 case round=>
  obtain⟨i,f,b,hi,rfl,rfl,HR,HX,HT,HF,HP,HB,HD⟩:=hrel;have hi0:(0:Int)≤(i:Int):=by omega
  by_cases hlt:i<N
  · obtain⟨x,hx⟩:∃x,xs[i]? =some x:=⟨_,List.getElem?_eq_getElem (by have:=HNN.out;omega)⟩
    have hi1:(i:Int)<(N:Int):=by omega
    obtain⟨g,rfl,hg,da,dc,h0,h1,h2⟩:=HRF.out i x hx;have c0:=(HD.out.cell (p:=⟨g,i*2,none⟩) hg).trans h0;have c1:=(HD.out.cell (p:=⟨g,i*2+1,none⟩) hg).trans h1;have HXA:=qq (HALL.out.2 x (List.mem_of_getElem? hx));have HDC:Hid (∀W,Below w1.heap.size w1 W→DataC W da x.d):=qq (fun W hW=>(show DataC w1 da x.d from h2).below hW)
    have HDR:Hid (xs.drop i=x::xs.drop (i+1)):=qq (by obtain⟨hil,he⟩:=List.getElem?_eq_some_iff.1 hx;rw[List.drop_eq_getElem_cons hil,he]);have ht1:=HXA.out.1;have ht2:=HXA.out.2.1;obtain⟨t,d⟩:=x;dsimp only at*;obtain⟨nd,hnd⟩:∃n,n=d.length:=⟨_,rfl⟩
    have hnd2:nd≤200:=by have:=HXA.out.2.2.1;omega
    have HND:=qq hnd;rw[←hnd] at c1;have HWA:=qq (hp_al HT.out (.cells #[(t:Int),.slice da nd dc] 184));have HFA:=qq (HF.out.alloc (.cells #[(t:Int),.slice da nd dc] 184));have HPA:=qq (HP.out.alloc (.cells #[(t:Int),.slice da nd dc] 184));have HBA:=qq (bel_alloc HB.out (.cells #[(t:Int),.slice da nd dc] 184));have HDA:=qq (bel_alloc HD.out (.cells #[(t:Int),.slice da nd dc] 184))
    have HXC:=qq (Blk.fresh wr #[(t:Int),.slice da nd dc] 184 _ rfl);have hfl:=HF.out.lt;have hpl:=HP.out.lt;have hwr:=HB.out.size;have HC4:Hid (∀W,Below w.heap.size w W→W.cell? ⟨3,0,none⟩=some (errV (ea 4))):=qq (fun W hW=>(HEN.out W hW).e.e4);clear hx h0 h1 h2 hnd hlt HT HF HP HB HD;by_cases h14:t=14
    · subst h14;have hstep:Hid (∀s:SFact×Bool,rdStep s ⟨14,d⟩=(fltF d).map fun u=>({s.1 with ex:=u},true)):=qq (fun s=>rfl)
      cases hq:fltF d with
      | none=>
       have HE:=qq (rdStep_none (t:=xs.drop (i+1)) (show rdStep (f,b) ⟨14,d⟩=none by rw[hstep.out,hq];rfl));have HRN:Hid (rv=rdRes none (ea 4)):=qq (by rw[HRV.out,HR.out,HDR.out,HE.out];rfl);have HTF:=qq (fun W (hW:Below w1.heap.size w1 W) (hV:Below w.heap.size w W)=>toflt_none da dc d ea W (HEN.out W hV).e HXA.out.2.2.2 (HDC.out W hW) hq);rw[←HND.out] at HTF;clear hq;have c4:=HC4.out _ HBA.out
       go_wp2_with fail;refine(HTF.out _ HDA.out HBA.out).mono ?_;rintro e w3 ⟨rfl,hb3⟩;have HT3:=qq (hp_be HWA.out hb3);have HF3:=qq (HFA.out.below hb3);have HP3:=qq (HPA.out.below hb3);have HB3:=qq (below_then HBA.out hb3);have HD3:=qq (below_then HDA.out hb3);have hz3:=hb3.size;simp only[World.size_alloc] at hz3;have XB:=bel_set HB3.out (p:=⟨fb,13,none⟩) (by dsimp only;omega) (flV 0)
       have XT:=hp_st HT3.out (p:=⟨fb,13,none⟩) (by dsimp only;omega) (flV 0);have HXB:=qq XB;have HXT:=qq XT;have HXD:=qq (bel_set HD3.out (p:=⟨fb,13,none⟩) (by have:=HFB.out;dsimp only;omega) (flV 0));have HXP:=qq (HP3.out.other (p:=⟨fb,13,none⟩) (by have:=HFB.out;dsimp only;omega) (flV 0))
       have HXF:Hid (Blk (w3.setCell ⟨fb,13,none⟩ (flV 0)) fb (factC {f with ex:=0})):=qq (by rw[←put_ex];exact HF3.out.set' 13 (by simp[factC]) _);obtain⟨l3,q3,f3⟩:=HF3.out;have q13:=q3 13;have f13:=f3 13;clear hb3 XB XT q3 f3 c4;go_wp2_with fail;have XB:=bel_drew HXB.out;have XC4:=HC4.out _ XB;have XT2:=hp_dr HXT.out
       refine reg_start2 (fun w'=>w'.cell? ⟨3,0,none⟩=some (errV (ea 4))∧Below w.heap.size w w') (fun w'=>w'.heap[w.heap.size]? =some (.cells #[.int .i64 0,.int .i64 0,.int .i64 0,.int .i64 0,.int .i64 0,.int .i64 0,.int .i64 0,.int .i64 0,.int .i64 0,.int .i64 0,.int .i64 0,.int .i64 0,.int .i64 0,.float .f64 0] 39 (0,0))) (by kernel_rfl) ⟨XC4,XB⟩ XT2 ?_;rintro w5 hHeld hT5
       refine takeM (v:=.agg #[.int .i64 0,.int .i64 0,.int .i64 0,.int .i64 0,.int .i64 0,.int .i64 0,.int .i64 0,.int .i64 0,.int .i64 0,.int .i64 0,.int .i64 0,.int .i64 0,.int .i64 0,.float .f64 0]) (d:=some 64) 0 rfl rfl hHeld (fun w' _=>by go_simp;(try rfl)) ?_;simp only[puts];refine takeM (d:=some 65) 1 rfl rfl hHeld (fun w' hS'=>by have qA:=hS'.1;clear hS';go_simp;(try rfl)) ?_
       simp only[puts];refine one_M 2 (by kernel_rfl) ?_
       refine row_M 2 39 (.tmp 2) (.tmp 64) rfl rfl rfl (w.heap.size) #[.int .i64 0,.int .i64 0,.int .i64 0,.int .i64 0,.int .i64 0,.int .i64 0,.int .i64 0,.int .i64 0,.int .i64 0,.int .i64 0,.int .i64 0,.int .i64 0,.int .i64 0,.float .f64 0] #[.int .i64 0,.int .i64 0,.int .i64 0,.int .i64 0,.int .i64 0,.int .i64 0,.int .i64 0,.int .i64 0,.int .i64 0,.int .i64 0,.int .i64 0,.int .i64 0,.int .i64 0,.float .f64 0] 39 hT5 rfl rfl (by kernel_rfl) rfl (by simp[Value.oneCell']) ?_
       rintro w6 hK6 hg6;have hg3:(3:Nat)≠w.heap.size:=fun e=>by omega
       refine⟨⟨?_,bel_gr hHeld.2 hg6 (Nat.le_refl _)⟩,fun hHeld=> ?_⟩
       · have h3:=hg6.block 3 (by have:=hHeld.2.size;omega) (fun e=>hg3 (by injection e));have h4:=hHeld.1;rw[←h4];simp[World.cell?,h3]
       refine takeM (d:=some 3) 3 rfl rfl hHeld (fun w' _=>by go_simp;(try rfl)) ?_;simp only[puts];refine doneM (by kernel_rfl) ?_ _;have hB6:=hHeld.2;obtain⟨l6,q6,f6⟩:=hK6;clear hHeld hT5 hg6;go_wp2_with fail
       refine bodyPost_ret (v:=.tuple #[.agg #[.int .i64 0,.int .i64 0,.int .i64 0,.int .i64 0,.int .i64 0,.int .i64 0,.int .i64 0,.int .i64 0,.int .i64 0,.int .i64 0,.int .i64 0,.int .i64 0,.int .i64 0,.float .f64 0],errV (ea 4)]) (by simp[results,Tryz.results103,go_sem,q6,f6]) rfl ?_;exact⟨by rw[HRN.out];rfl,hB6⟩
      | some u=>
       have HE:=qq (rdStep_some (t:=xs.drop (i+1)) (show rdStep (f,b) ⟨14,d⟩=some ({f with ex:=u},true) by rw[hstep.out,hq];rfl));have HU:=qq (fltF_F64 hq HXA.out.2.2.2).1;have HTF:=qq (fun W (hW:Below w1.heap.size w1 W) (hV:Below w.heap.size w W)=>toflt_some da dc d u ea W (HEN.out W hV).e HXA.out.2.2.2 (HDC.out W hW) hq);rw[←HND.out] at HTF;clear hq;have c4:=HC4.out _ HBA.out;go_wp2_with fail
       refine(HTF.out _ HDA.out HBA.out).mono ?_;rintro e w3 ⟨rfl,hb3⟩;have HT3:=qq (hp_be HWA.out hb3);have HF3:=qq (HFA.out.below hb3);have HP3:=qq (HPA.out.below hb3);have HB3:=qq (below_then HBA.out hb3);have HD3:=qq (below_then HDA.out hb3);have hz3:=hb3.size;simp only[World.size_alloc] at hz3;have XB:=bel_set HB3.out (p:=⟨fb,13,none⟩) (by dsimp only;omega) (flV u)
       have XT:=hp_st HT3.out (p:=⟨fb,13,none⟩) (by dsimp only;omega) (flV u);have HXB:=qq XB;have HXT:=qq XT;have HXD:=qq (bel_set HD3.out (p:=⟨fb,13,none⟩) (by have:=HFB.out;dsimp only;omega) (flV u));have HXP:=qq (HP3.out.other (p:=⟨fb,13,none⟩) (by have:=HFB.out;dsimp only;omega) (flV u))
       have HXF:Hid (Blk (w3.setCell ⟨fb,13,none⟩ (flV u)) fb (factC {f with ex:=u})):=qq (by rw[←put_ex];exact HF3.out.set' 13 (by simp[factC]) _);obtain⟨l3,q3,f3⟩:=HF3.out;have q13:=q3 13;have f13:=f3 13;clear hb3 XB XT q3 f3 c4;go_wp2_with fail;go_roundw
       case rel=>exact⟨i+1,{f with ex:=u},true,by omega,by go_num,by first | rfl | exact True.intro,qq (by rw[HR.out,HDR.out,HE.out]),HU,HXT,HXF,HXP,HXB,HXD⟩
       case measure=>simp[intOf];omega
    · have hq14:((t:Int)==14)=false:=by simpa using(show ¬(t:Int)=14 by omega)
      by_cases hgt:14<t∨nd=0
      · have HE:=qq (rdStep_none (t:=xs.drop (i+1)) (show rdStep (f,b) ⟨t,d⟩=none by
          unfold rdStep;rw[if_neg h14,if_pos (by rcases hgt with h | h;exact .inl h;exact .inr (List.length_eq_zero_iff.1 (by rw[←HND.out];exact h)))]))
        have HRN:Hid (rv=rdRes none (ea 4)):=qq (by rw[HRV.out,HR.out,HDR.out,HE.out];rfl);have c4:=HC4.out _ HBA.out;have hcut:(14<t)∨(t≤14∧nd=0):=by omega
        clear hgt;have XB0:=HBA.out;have XT0:=HWA.out;rcases hcut with h | ⟨h,h0⟩
        · have hh:(14:Int)<(t:Int):=by omega
          clear h XB0 XT0;go_wp2_with fail;have XB:=bel_drew HBA.out;have XC4:=HC4.out _ XB;have XT2:=hp_dr HWA.out
          refine reg_start2 (fun w'=>w'.cell? ⟨3,0,none⟩=some (errV (ea 4))∧Below w.heap.size w w') (fun w'=>w'.heap[w.heap.size]? =some (.cells #[.int .i64 0,.int .i64 0,.int .i64 0,.int .i64 0,.int .i64 0,.int .i64 0,.int .i64 0,.int .i64 0,.int .i64 0,.int .i64 0,.int .i64 0,.int .i64 0,.int .i64 0,.float .f64 0] 39 (0,0))) (by kernel_rfl) ⟨XC4,XB⟩ XT2 ?_;rintro w5 hHeld hT5
          refine takeM (v:=.agg #[.int .i64 0,.int .i64 0,.int .i64 0,.int .i64 0,.int .i64 0,.int .i64 0,.int .i64 0,.int .i64 0,.int .i64 0,.int .i64 0,.int .i64 0,.int .i64 0,.int .i64 0,.float .f64 0]) (d:=some 64) 0 rfl rfl hHeld (fun w' _=>by go_simp;(try rfl)) ?_;simp only[puts];refine takeM (d:=some 65) 1 rfl rfl hHeld (fun w' hS'=>by have qA:=hS'.1;clear hS';go_simp;(try rfl)) ?_
          simp only[puts];refine one_M 2 (by kernel_rfl) ?_
          refine row_M 2 39 (.tmp 2) (.tmp 64) rfl rfl rfl (w.heap.size) #[.int .i64 0,.int .i64 0,.int .i64 0,.int .i64 0,.int .i64 0,.int .i64 0,.int .i64 0,.int .i64 0,.int .i64 0,.int .i64 0,.int .i64 0,.int .i64 0,.int .i64 0,.float .f64 0] #[.int .i64 0,.int .i64 0,.int .i64 0,.int .i64 0,.int .i64 0,.int .i64 0,.int .i64 0,.int .i64 0,.int .i64 0,.int .i64 0,.int .i64 0,.int .i64 0,.int .i64 0,.float .f64 0] 39 hT5 rfl rfl (by kernel_rfl) rfl (by simp[Value.oneCell']) ?_
          rintro w6 hK6 hg6;have hg3:(3:Nat)≠w.heap.size:=fun e=>by omega
          refine⟨⟨?_,bel_gr hHeld.2 hg6 (Nat.le_refl _)⟩,fun hHeld=> ?_⟩
          · have h3:=hg6.block 3 (by have:=hHeld.2.size;omega) (fun e=>hg3 (by injection e));have h4:=hHeld.1;rw[←h4];simp[World.cell?,h3]
          refine takeM (d:=some 3) 3 rfl rfl hHeld (fun w' _=>by go_simp;(try rfl)) ?_;simp only[puts];refine doneM (by kernel_rfl) ?_ _;have hB6:=hHeld.2;obtain⟨l6,q6,f6⟩:=hK6;clear hHeld hT5 hg6;go_wp2_with fail
          refine bodyPost_ret (v:=.tuple #[.agg #[.int .i64 0,.int .i64 0,.int .i64 0,.int .i64 0,.int .i64 0,.int .i64 0,.int .i64 0,.int .i64 0,.int .i64 0,.int .i64 0,.int .i64 0,.int .i64 0,.int .i64 0,.float .f64 0],errV (ea 4)]) (by simp[results,Tryz.results103,go_sem,q6,f6]) rfl ?_;exact⟨by rw[HRN.out];rfl,hB6⟩
        · have hh:¬(14:Int)<(t:Int):=by omega
          subst h0;clear h XB0 XT0;go_wp2_with fail;have XB:=bel_drew HBA.out;have XC4:=HC4.out _ XB;have XT2:=hp_dr HWA.out
          refine reg_start2 (fun w'=>w'.cell? ⟨3,0,none⟩=some (errV (ea 4))∧Below w.heap.size w w') (fun w'=>w'.heap[w.heap.size]? =some (.cells #[.int .i64 0,.int .i64 0,.int .i64 0,.int .i64 0,.int .i64 0,.int .i64 0,.int .i64 0,.int .i64 0,.int .i64 0,.int .i64 0,.int .i64 0,.int .i64 0,.int .i64 0,.float .f64 0] 39 (0,0))) (by kernel_rfl) ⟨XC4,XB⟩ XT2 ?_;rintro w5 hHeld hT5
          refine takeM (v:=.agg #[.int .i64 0,.int .i64 0,.int .i64 0,.int .i64 0,.int .i64 0,.int .i64 0,.int .i64 0,.int .i64 0,.int .i64 0,.int .i64 0,.int .i64 0,.int .i64 0,.int .i64 0,.float .f64 0]) (d:=some 64) 0 rfl rfl hHeld (fun w' _=>by go_simp;(try rfl)) ?_;simp only[puts];refine takeM (d:=some 65) 1 rfl rfl hHeld (fun w' hS'=>by have qA:=hS'.1;clear hS';go_simp;(try rfl)) ?_
          simp only[puts];refine one_M 2 (by kernel_rfl) ?_
          refine row_M 2 39 (.tmp 2) (.tmp 64) rfl rfl rfl (w.heap.size) #[.int .i64 0,.int .i64 0,.int .i64 0,.int .i64 0,.int .i64 0,.int .i64 0,.int .i64 0,.int .i64 0,.int .i64 0,.int .i64 0,.int .i64 0,.int .i64 0,.int .i64 0,.float .f64 0] #[.int .i64 0,.int .i64 0,.int .i64 0,.int .i64 0,.int .i64 0,.int .i64 0,.int .i64 0,.int .i64 0,.int .i64 0,.int .i64 0,.int .i64 0,.int .i64 0,.int .i64 0,.float .f64 0] 39 hT5 rfl rfl (by kernel_rfl) rfl (by simp[Value.oneCell']) ?_
          rintro w6 hK6 hg6;have hg3:(3:Nat)≠w.heap.size:=fun e=>by omega
          refine⟨⟨?_,bel_gr hHeld.2 hg6 (Nat.le_refl _)⟩,fun hHeld=> ?_⟩
          · have h3:=hg6.block 3 (by have:=hHeld.2.size;omega) (fun e=>hg3 (by injection e));have h4:=hHeld.1;rw[←h4];simp[World.cell?,h3]
          refine takeM (d:=some 3) 3 rfl rfl hHeld (fun w' _=>by go_simp;(try rfl)) ?_;simp only[puts];refine doneM (by kernel_rfl) ?_ _;have hB6:=hHeld.2;obtain⟨l6,q6,f6⟩:=hK6;clear hHeld hT5 hg6;go_wp2_with fail
          refine bodyPost_ret (v:=.tuple #[.agg #[.int .i64 0,.int .i64 0,.int .i64 0,.int .i64 0,.int .i64 0,.int .i64 0,.int .i64 0,.int .i64 0,.int .i64 0,.int .i64 0,.int .i64 0,.int .i64 0,.int .i64 0,.float .f64 0],errV (ea 4)]) (by simp[results,Tryz.results103,go_sem,q6,f6]) rfl ?_;exact⟨by rw[HRN.out];rfl,hB6⟩
      · have hcut:t≤13∧0<nd:=by omega
        obtain⟨ht13,hnp⟩:=hcut;clear hgt h14;have hng:¬(14:Int)<(t:Int):=by omega
        have hnp0:((nd:Int)==0)=false:=by simpa using(show ¬(nd:Int)=0 by omega)
        have HRS:Hid (rdStep (f,b) ⟨t,d⟩=(numF d).map fun(n:Nat)=>(setTag f t (n:Int),b)):=qq (by
          unfold rdStep;rw[if_neg (show ¬t=14 by omega),if_neg (by have:=HND.out;intro h;rcases h with h | h;exact absurd h (by dsimp only;omega);subst h;simp at this;omega)])
        have hw1:IntKind.i64.wrap ((t:Int) - 1)=((t - 1:Nat):Int):=by have h:=IntWalk.i64_in ((t:Int) - 1) (by omega);rw[h];omega
        obtain⟨t1,ht⟩:∃n,n=t - 1:=⟨_,rfl⟩
        have HTT:=qq ht;rw[←ht] at hw1;have ht14:t1<13:=by omega
        have HPB:=qq (plA_at fb t1 ht14);clear ht;have hi13:(t1:Int)<13:=by omega
        have hi10:(0:Int)≤(t1:Int):=by omega
        go_wp2_with fail
        refine reg_start2 (fun w'=>Blk w' wr.heap.size #[(t:Int),.slice da nd dc]∧w'.cell? ⟨w2.heap.size,t1,none⟩=some (.pointer (some ⟨fb,t1,none⟩))) (fun W=>(W.heap[w.heap.size]? =some (.cells #[.int .i64 0,.int .i64 0,.int .i64 0,.int .i64 0,.int .i64 0,.int .i64 0,.int .i64 0,.int .i64 0,.int .i64 0,.int .i64 0,.int .i64 0,.int .i64 0,.int .i64 0,.float .f64 0] 39 (0,0))∧Blk W fb (factC f)∧Blk W w2.heap.size (plA fb))∧Below w.heap.size w W∧Below w1.heap.size w1 W) (by kernel_rfl) ⟨HXC.out.drew,((HPA.out.drew.cell t1).trans HPB.out)⟩ ⟨⟨hp_dr HWA.out,HFA.out.drew,HPA.out.drew⟩,bel_drew HBA.out,bel_drew HDA.out⟩ ?_
        rintro w5 hHeld ⟨⟨hT5,hF5,hP5⟩,hB5,hD5⟩;have HT5:=qq hT5;have HF5:=qq hF5;have HP5:=qq hP5;have HB5:=qq hB5;have HD5:=qq hD5;clear hT5 hF5 hP5 hB5 hD5;refine takeM (d:=some 29) 0 rfl rfl hHeld (fun w' _=>by go_simp;(try rfl)) ?_;simp only[puts];refine takeM (d:=some 30) 1 rfl rfl hHeld (fun w' hS'=>by have qA:=hS'.1.cell;clear hS';go_simp;(try rfl)) ?_;simp only[puts]
        refine takeM (v:=.int .i64 (t1:Int)) (d:=some 31) 2 rfl rfl hHeld (fun w' _=>by go_simp;(try rfl)) ?_;simp only[puts];refine takeM (v:=.pointer (some ⟨w2.heap.size,t1,none⟩)) (d:=some 32) 3 rfl rfl hHeld (fun w' _=>by go_simp;(try rfl)) ?_;simp only[puts];refine takeM (d:=some 33) 4 rfl rfl hHeld (fun w' hS'=>by have qA:=hS'.2;clear hS';go_simp;(try rfl)) ?_;simp only[puts]
        refine takeM (d:=some 34) 5 rfl rfl hHeld (fun w' _=>by go_simp;(try rfl)) ?_;simp only[puts];refine takeM (d:=some 35) 6 rfl rfl hHeld (fun w' hS'=>by have qA:=hS'.1.cell;clear hS';go_simp;(try rfl)) ?_;simp only[puts];refine one_M 7 (by kernel_rfl) ?_;refine wpOp_call (d:=some 36) 7 207 _ _ [.slice da nd dc] rfl rfl rfl (enters_of Tryz.func207 (by kernel_rfl) rfl) (by rfl) (by rfl) ?_
        cases hq:numF d with
        | none=>
         obtain⟨kk,hk1,hk2,hTN⟩:=tonum_bad da dc d ea w5 (HEN.out _ HB5.out).e HXA.out.2.2.2 (HDC.out _ HD5.out) (by rw[←HND.out];omega) hq;rw[←HND.out] at hTN;have HE:=qq (rdStep_none (t:=xs.drop (i+1)) (show rdStep (f,b) ⟨t,d⟩=none by rw[HRS.out,hq];rfl));have HRN:Hid (rv=rdRes none (ea 4)):=qq (by rw[HRV.out,HR.out,HDR.out,HE.out];rfl);refine hTN.mono ?_;clear hTN hq;rintro e w6 ⟨rfl,hb6⟩
         have HT6:=qq (hp_be HT5.out hb6);have HF6:=qq (HF5.out.below hb6);have HP6:=qq (HP5.out.below hb6);have HB6:=qq (below_then HB5.out hb6);have HD6:=qq (below_then HD5.out hb6);have hz6:=hb6.size;have hX6:=hHeld.1.below hb6;clear hHeld hb6;refine ret_S ⟨hX6,(HP6.out.cell t1).trans HPB.out⟩ (fun hHeld=> ?_);simp only[puts]
         refine takeM (d:=some 28) 8 rfl rfl hHeld (fun w' _=>by go_simp;(try rfl)) ?_;simp only[puts];refine takeM (d:=some 37) 9 rfl rfl hHeld (fun w' _=>by go_simp;(try rfl)) ?_;simp only[puts];refine takeM (d:=some 38) 10 rfl rfl hHeld (fun w' _=>by go_simp;(try rfl)) ?_;simp only[puts];refine takeM (d:=some 39) 11 rfl rfl hHeld (fun w' _=>by go_simp;(try rfl)) ?_;simp only[puts]
         refine one_M 12 (by kernel_rfl) ?_;have hfp:fb<wr.heap.size:=by omega
         obtain⟨l6,q6,f6⟩:=HF6.out;have hq6:(w6.cell? ⟨fb,t1,none⟩).isSome=true:=by rw[q6];simp[factC];omega
         obtain⟨old,hold⟩:=Option.isSome_iff_exists.1 hq6;have hf6:=f6 t1;clear q6 f6 hq6;refine set_M 12 (w6.setCell ⟨fb,t1,none⟩ (.int .i64 0)) rfl rfl (by go_simp) ⟨hHeld.1.other (by dsimp only;omega) _,(((HP6.out.other (p:=⟨fb,t1,none⟩) (by have:=HFB.out;dsimp only;omega) _).cell t1).trans HPB.out)⟩ ?_;rintro hHeld;refine takeM (d:=some 11) 13 rfl rfl hHeld (fun w' _=>by go_simp;(try rfl)) ?_
         simp only[puts];refine doneM (by kernel_rfl) ?_ _;clear hHeld hX6 hold;have XB:=bel_set HB6.out (p:=⟨fb,t1,none⟩) (by dsimp only;omega) ((.int .i64 0));have HXB:=qq XB;have HXT:=qq (hp_st HT6.out (p:=⟨fb,t1,none⟩) (by dsimp only;omega) ((.int .i64 0)));have HXD:=qq (bel_set HD6.out (p:=⟨fb,t1,none⟩) (by have:=HFB.out;dsimp only;omega) ((.int .i64 0)))
         have HXP:=qq (HP6.out.other (p:=⟨fb,t1,none⟩) (by have:=HFB.out;dsimp only;omega) ((.int .i64 0)));clear XB;go_wp2_with fail;have XB:=bel_drew HXB.out;have XC4:=HC4.out _ XB;have XT2:=hp_dr HXT.out
         refine reg_start2 (fun w'=>w'.cell? ⟨3,0,none⟩=some (errV (ea 4))∧Below w.heap.size w w') (fun w'=>w'.heap[w.heap.size]? =some (.cells #[.int .i64 0,.int .i64 0,.int .i64 0,.int .i64 0,.int .i64 0,.int .i64 0,.int .i64 0,.int .i64 0,.int .i64 0,.int .i64 0,.int .i64 0,.int .i64 0,.int .i64 0,.float .f64 0] 39 (0,0))) (by kernel_rfl) ⟨XC4,XB⟩ XT2 ?_;rintro w5 hHeld hT5
         refine takeM (v:=.agg #[.int .i64 0,.int .i64 0,.int .i64 0,.int .i64 0,.int .i64 0,.int .i64 0,.int .i64 0,.int .i64 0,.int .i64 0,.int .i64 0,.int .i64 0,.int .i64 0,.int .i64 0,.float .f64 0]) (d:=some 64) 0 rfl rfl hHeld (fun w' _=>by go_simp;(try rfl)) ?_;simp only[puts];refine takeM (d:=some 65) 1 rfl rfl hHeld (fun w' hS'=>by have qA:=hS'.1;clear hS';go_simp;(try rfl)) ?_
         simp only[puts];refine one_M 2 (by kernel_rfl) ?_
         refine row_M 2 39 (.tmp 2) (.tmp 64) rfl rfl rfl (w.heap.size) #[.int .i64 0,.int .i64 0,.int .i64 0,.int .i64 0,.int .i64 0,.int .i64 0,.int .i64 0,.int .i64 0,.int .i64 0,.int .i64 0,.int .i64 0,.int .i64 0,.int .i64 0,.float .f64 0] #[.int .i64 0,.int .i64 0,.int .i64 0,.int .i64 0,.int .i64 0,.int .i64 0,.int .i64 0,.int .i64 0,.int .i64 0,.int .i64 0,.int .i64 0,.int .i64 0,.int .i64 0,.float .f64 0] 39 hT5 rfl rfl (by kernel_rfl) rfl (by simp[Value.oneCell']) ?_
         rintro w6 hK6 hg6;have hg3:(3:Nat)≠w.heap.size:=fun e=>by omega
         refine⟨⟨?_,bel_gr hHeld.2 hg6 (Nat.le_refl _)⟩,fun hHeld=> ?_⟩
         · have h3:=hg6.block 3 (by have:=hHeld.2.size;omega) (fun e=>hg3 (by injection e));have h4:=hHeld.1;rw[←h4];simp[World.cell?,h3]
         refine takeM (d:=some 3) 3 rfl rfl hHeld (fun w' _=>by go_simp;(try rfl)) ?_;simp only[puts];refine doneM (by kernel_rfl) ?_ _;have hB6:=hHeld.2;obtain⟨l6,q6,f6⟩:=hK6;clear hHeld hT5 hg6;go_wp2_with fail
         refine bodyPost_ret (v:=.tuple #[.agg #[.int .i64 0,.int .i64 0,.int .i64 0,.int .i64 0,.int .i64 0,.int .i64 0,.int .i64 0,.int .i64 0,.int .i64 0,.int .i64 0,.int .i64 0,.int .i64 0,.int .i64 0,.float .f64 0],errV (ea 4)]) (by simp[results,Tryz.results103,go_sem,q6,f6]) rfl ?_;exact⟨by rw[HRN.out];rfl,hB6⟩
        | some n=>
         have hTN:=tonum_ok da dc d n w5 HXA.out.2.2.2 (HDC.out _ HD5.out) hq;rw[←HND.out] at hTN;have HE:=qq (rdStep_some (t:=xs.drop (i+1)) (show rdStep (f,b) ⟨t,d⟩=some (setTag f t n,b) by rw[HRS.out,hq];rfl));refine hTN.mono ?_;clear hTN hq;rintro e w6 ⟨rfl,hb6⟩;have HT6:=qq (hp_be HT5.out hb6);have HF6:=qq (HF5.out.below hb6);have HP6:=qq (HP5.out.below hb6)
         have HB6:=qq (below_then HB5.out hb6);have HD6:=qq (below_then HD5.out hb6);have hz6:=hb6.size;have hX6:=hHeld.1.below hb6;clear hHeld hb6;refine ret_S ⟨hX6,(HP6.out.cell t1).trans HPB.out⟩ (fun hHeld=> ?_);simp only[puts];refine takeM (d:=some 28) 8 rfl rfl hHeld (fun w' _=>by go_simp;(try rfl)) ?_;simp only[puts]
         refine takeM (d:=some 37) 9 rfl rfl hHeld (fun w' _=>by go_simp;(try rfl)) ?_;simp only[puts];refine takeM (d:=some 38) 10 rfl rfl hHeld (fun w' _=>by go_simp;(try rfl)) ?_;simp only[puts];refine takeM (d:=some 39) 11 rfl rfl hHeld (fun w' _=>by go_simp;(try rfl)) ?_;simp only[puts];refine one_M 12 (by kernel_rfl) ?_;have hfp:fb<wr.heap.size:=by omega
         obtain⟨l6,q6,f6⟩:=HF6.out;have hq6:(w6.cell? ⟨fb,t1,none⟩).isSome=true:=by rw[q6];simp[factC];omega
         obtain⟨old,hold⟩:=Option.isSome_iff_exists.1 hq6;have hf6:=f6 t1;clear q6 f6 hq6;refine set_M 12 (w6.setCell ⟨fb,t1,none⟩ (.int .i64 (n:Int))) rfl rfl (by go_simp) ⟨hHeld.1.other (by dsimp only;omega) _,(((HP6.out.other (p:=⟨fb,t1,none⟩) (by have:=HFB.out;dsimp only;omega) _).cell t1).trans HPB.out)⟩ ?_;rintro hHeld
         refine takeM (d:=some 11) 13 rfl rfl hHeld (fun w' _=>by go_simp;(try rfl)) ?_;simp only[puts];refine doneM (by kernel_rfl) ?_ _;clear hHeld hX6 hold;have XB:=bel_set HB6.out (p:=⟨fb,t1,none⟩) (by dsimp only;omega) ((.int .i64 (n:Int)));have HXB:=qq XB;have HXT:=qq (hp_st HT6.out (p:=⟨fb,t1,none⟩) (by dsimp only;omega) ((.int .i64 (n:Int))))
         have HXD:=qq (bel_set HD6.out (p:=⟨fb,t1,none⟩) (by have:=HFB.out;dsimp only;omega) ((.int .i64 (n:Int))));have HXP:=qq (HP6.out.other (p:=⟨fb,t1,none⟩) (by have:=HFB.out;dsimp only;omega) ((.int .i64 (n:Int))));clear XB
         have HXF:Hid (Blk (w6.setCell ⟨fb,t1,none⟩ (.int .i64 (n:Int))) fb (factC (setTag f t n))):=qq (by have h:=HF6.out.set' t1 (by simp[factC];omega) (.int .i64 (n:Int));rw[←setTag_put f t n (by omega) (by omega),←HTT.out,Array.setIfInBounds,dif_pos (show t1<(factC f).size by simp[factC];omega)];exact h);go_wp2_with fail;go_roundw
         case rel=>exact⟨i+1,setTag f t n,b,by omega,by go_num,by first | rfl | exact True.intro,qq (by rw[HR.out,HDR.out,HE.out]),qq (by rw[setTag_ex];exact HX.out),HXT,HXF,HXP,HXB,HXD⟩
         case measure=>simp[intOf];omega
  · obtain rfl:i=N:=by omega
    have HEN2:Hid (rdAll (fact00,false) xs=some (f,b)):=qq (by rw[HR.out,List.drop_eq_nil_of_le (by have:=HNN.out;omega)];rfl);clear HR hlt hi;have c4:=HEN.out _ HB.out;have HC4:Hid (∀W,Below w.heap.size w W→W.cell? ⟨3,0,none⟩=some (errV (ea 4))):=qq (fun W hW=>(HEN.out W hW).e.e4);have HFR:=qq (fun W (hW:Below w.heap.size w W)=>factRight_of f HX.out ea W (HEN.out W hW));have hwr:=HB.out.size
    clear c4;obtain⟨k,an,aq,rg,nd,pt,pr,oc,dp,pa,st,hw,de,ex⟩:=f;obtain⟨okb,hok⟩:∃o,o=fok ⟨k,an,aq,rg,nd,pt,pr,oc,dp,pa,st,hw,de,ex⟩:=⟨_,rfl⟩
    rw[←hok] at HFR;have HOK:=qq hok;simp only[factV,factC] at HFR;clear hok;obtain⟨lf,qf,ff⟩:=HF.out;simp only[factC] at qf;by_cases hk:k=1
    · subst hk
      cases b with
      | true=>
       have HDK:Hid (true=decide ((1:Int)=1)):=qq rfl;go_wp2_with fail;refine(HFR.out _ HB.out).mono ?_;rintro e w3 ⟨rfl,hb3⟩;have HF3:=qq (HF.out.below hb3);have HT3:=qq (hp_be HT.out hb3);have HB3:=qq (below_then HB.out hb3);have hwr3:=HB3.out.size;clear hb3 qf ff lf;obtain⟨lf,qf,ff⟩:=HF3.out;simp only[factC] at qf
       cases okb with
       | true=>
        have HRN:Hid (rv=rdRes (some ⟨1,an,aq,rg,nd,pt,pr,oc,dp,pa,st,hw,de,ex⟩) (ea 4)):=qq (by
          rw[HRV.out,HEN2.out];unfold rdEnd;simp only;rw[if_neg (by rw[←HOK.out];intro h;rcases h with h | h;exact h HDK.out;cases h)])
        go_wp2_with (refine wpList_store_row rfl 39 (.tmp 2) (.tmp 79) rfl (w.heap.size) #[.int .i64 1,.int .i64 an,.int .i64 aq,.int .i64 rg,.int .i64 nd,.int .i64 pt,.int .i64 pr,.int .i64 oc,.int .i64 dp,.int .i64 pa,.int .i64 st,.int .i64 hw,.int .i64 de,.float .f64 ex] rfl rfl 39 #[.int .i64 0,.int .i64 0,.int .i64 0,.int .i64 0,.int .i64 0,.int .i64 0,.int .i64 0,.int .i64 0,.int .i64 0,.int .i64 0,.int .i64 0,.int .i64 0,.int .i64 0,.float .f64 0] HT3.out (by kernel_rfl) rfl (by simp[Value.oneCell']) ?_)
        obtain⟨HFr,hgr⟩:=row_end (cells:= #[.int .i64 1,.int .i64 an,.int .i64 aq,.int .i64 rg,.int .i64 nd,.int .i64 pt,.int .i64 pr,.int .i64 oc,.int .i64 dp,.int .i64 pa,.int .i64 st,.int .i64 hw,.int .i64 de,.float .f64 ex]) HT3.out;obtain⟨l1,q1,f1⟩:=HFr
        refine bodyPost_ret (v:=.tuple #[.agg #[.int .i64 1,an,aq,rg,nd,pt,pr,oc,dp,pa,st,hw,de,.float .f64 ex],.nilIface]) (by simp[results,Tryz.results103,go_sem,q1,f1]) rfl ?_;exact⟨by rw[HRN.out];rfl,bel_gr HB3.out hgr (Nat.le_refl _)⟩
       | false=>
        have HRN:Hid (rv=rdRes none (ea 4)):=qq (by
          rw[HRV.out,HEN2.out];unfold rdEnd;simp only;rw[if_pos (.inr HOK.out.symm)])
        go_wp2_with fail;have XB:=bel_drew HB3.out;have XC4:=HC4.out _ XB;have XT2:=hp_dr HT3.out
        refine reg_start2 (fun w'=>w'.cell? ⟨3,0,none⟩=some (errV (ea 4))∧Below w.heap.size w w') (fun w'=>w'.heap[w.heap.size]? =some (.cells #[.int .i64 0,.int .i64 0,.int .i64 0,.int .i64 0,.int .i64 0,.int .i64 0,.int .i64 0,.int .i64 0,.int .i64 0,.int .i64 0,.int .i64 0,.int .i64 0,.int .i64 0,.float .f64 0] 39 (0,0))) (by kernel_rfl) ⟨XC4,XB⟩ XT2 ?_;rintro w5 hHeld hT5
        refine takeM (v:=.agg #[.int .i64 0,.int .i64 0,.int .i64 0,.int .i64 0,.int .i64 0,.int .i64 0,.int .i64 0,.int .i64 0,.int .i64 0,.int .i64 0,.int .i64 0,.int .i64 0,.int .i64 0,.float .f64 0]) (d:=some 77) 0 rfl rfl hHeld (fun w' _=>by go_simp;(try rfl)) ?_;simp only[puts];refine takeM (d:=some 78) 1 rfl rfl hHeld (fun w' hS'=>by have qA:=hS'.1;clear hS';go_simp;(try rfl)) ?_
        simp only[puts];refine one_M 2 (by kernel_rfl) ?_
        refine row_M 2 39 (.tmp 2) (.tmp 77) rfl rfl rfl (w.heap.size) #[.int .i64 0,.int .i64 0,.int .i64 0,.int .i64 0,.int .i64 0,.int .i64 0,.int .i64 0,.int .i64 0,.int .i64 0,.int .i64 0,.int .i64 0,.int .i64 0,.int .i64 0,.float .f64 0] #[.int .i64 0,.int .i64 0,.int .i64 0,.int .i64 0,.int .i64 0,.int .i64 0,.int .i64 0,.int .i64 0,.int .i64 0,.int .i64 0,.int .i64 0,.int .i64 0,.int .i64 0,.float .f64 0] 39 hT5 rfl rfl (by kernel_rfl) rfl (by simp[Value.oneCell']) ?_
        rintro w6 hK6 hg6;have hg3:(3:Nat)≠w.heap.size:=fun e=>by omega
        refine⟨⟨?_,bel_gr hHeld.2 hg6 (Nat.le_refl _)⟩,fun hHeld=> ?_⟩
        · have h3:=hg6.block 3 (by have:=hHeld.2.size;omega) (fun e=>hg3 (by injection e));have h4:=hHeld.1;rw[←h4];simp[World.cell?,h3]
        refine takeM (d:=some 3) 3 rfl rfl hHeld (fun w' _=>by go_simp;(try rfl)) ?_;simp only[puts];refine doneM (by kernel_rfl) ?_ _;have hB6:=hHeld.2;obtain⟨l6,q6,f6⟩:=hK6;clear hHeld hT5 hg6;go_wp2_with fail
        refine bodyPost_ret (v:=.tuple #[.agg #[.int .i64 0,.int .i64 0,.int .i64 0,.int .i64 0,.int .i64 0,.int .i64 0,.int .i64 0,.int .i64 0,.int .i64 0,.int .i64 0,.int .i64 0,.int .i64 0,.int .i64 0,.float .f64 0],errV (ea 4)]) (by simp[results,Tryz.results103,go_sem,q6,f6]) rfl ?_;exact⟨by rw[HRN.out];rfl,hB6⟩
      | false=>
       have HDK:Hid (false≠decide ((1:Int)=1)):=qq (by decide);have HRN:Hid (rv=rdRes none (ea 4)):=qq (by
         rw[HRV.out,HEN2.out];unfold rdEnd;simp only;rw[if_pos (.inl HDK.out)])
       go_wp2_with fail;have XB:=bel_drew HB.out;have XC4:=HC4.out _ XB;have XT2:=hp_dr HT.out
       refine reg_start2 (fun w'=>w'.cell? ⟨3,0,none⟩=some (errV (ea 4))∧Below w.heap.size w w') (fun w'=>w'.heap[w.heap.size]? =some (.cells #[.int .i64 0,.int .i64 0,.int .i64 0,.int .i64 0,.int .i64 0,.int .i64 0,.int .i64 0,.int .i64 0,.int .i64 0,.int .i64 0,.int .i64 0,.int .i64 0,.int .i64 0,.float .f64 0] 39 (0,0))) (by kernel_rfl) ⟨XC4,XB⟩ XT2 ?_;rintro w5 hHeld hT5
       refine takeM (v:=.agg #[.int .i64 0,.int .i64 0,.int .i64 0,.int .i64 0,.int .i64 0,.int .i64 0,.int .i64 0,.int .i64 0,.int .i64 0,.int .i64 0,.int .i64 0,.int .i64 0,.int .i64 0,.float .f64 0]) (d:=some 77) 0 rfl rfl hHeld (fun w' _=>by go_simp;(try rfl)) ?_;simp only[puts];refine takeM (d:=some 78) 1 rfl rfl hHeld (fun w' hS'=>by have qA:=hS'.1;clear hS';go_simp;(try rfl)) ?_
       simp only[puts];refine one_M 2 (by kernel_rfl) ?_
       refine row_M 2 39 (.tmp 2) (.tmp 77) rfl rfl rfl (w.heap.size) #[.int .i64 0,.int .i64 0,.int .i64 0,.int .i64 0,.int .i64 0,.int .i64 0,.int .i64 0,.int .i64 0,.int .i64 0,.int .i64 0,.int .i64 0,.int .i64 0,.int .i64 0,.float .f64 0] #[.int .i64 0,.int .i64 0,.int .i64 0,.int .i64 0,.int .i64 0,.int .i64 0,.int .i64 0,.int .i64 0,.int .i64 0,.int .i64 0,.int .i64 0,.int .i64 0,.int .i64 0,.float .f64 0] 39 hT5 rfl rfl (by kernel_rfl) rfl (by simp[Value.oneCell']) ?_
       rintro w6 hK6 hg6;have hg3:(3:Nat)≠w.heap.size:=fun e=>by omega
       refine⟨⟨?_,bel_gr hHeld.2 hg6 (Nat.le_refl _)⟩,fun hHeld=> ?_⟩
       · have h3:=hg6.block 3 (by have:=hHeld.2.size;omega) (fun e=>hg3 (by injection e));have h4:=hHeld.1;rw[←h4];simp[World.cell?,h3]
       refine takeM (d:=some 3) 3 rfl rfl hHeld (fun w' _=>by go_simp;(try rfl)) ?_;simp only[puts];refine doneM (by kernel_rfl) ?_ _;have hB6:=hHeld.2;obtain⟨l6,q6,f6⟩:=hK6;clear hHeld hT5 hg6;go_wp2_with fail
       refine bodyPost_ret (v:=.tuple #[.agg #[.int .i64 0,.int .i64 0,.int .i64 0,.int .i64 0,.int .i64 0,.int .i64 0,.int .i64 0,.int .i64 0,.int .i64 0,.int .i64 0,.int .i64 0,.int .i64 0,.int .i64 0,.float .f64 0],errV (ea 4)]) (by simp[results,Tryz.results103,go_sem,q6,f6]) rfl ?_;exact⟨by rw[HRN.out];rfl,hB6⟩
    · have hk1:(k==1)=false:=by simpa using hk
      cases b with
      | true=>
       have HDK:Hid (true≠decide (k=1)):=qq (by simp[hk]);clear hk;have HRN:Hid (rv=rdRes none (ea 4)):=qq (by
         rw[HRV.out,HEN2.out];unfold rdEnd;simp only;rw[if_pos (.inl HDK.out)])
       go_wp2_with fail;have XB:=bel_drew HB.out;have XC4:=HC4.out _ XB;have XT2:=hp_dr HT.out
       refine reg_start2 (fun w'=>w'.cell? ⟨3,0,none⟩=some (errV (ea 4))∧Below w.heap.size w w') (fun w'=>w'.heap[w.heap.size]? =some (.cells #[.int .i64 0,.int .i64 0,.int .i64 0,.int .i64 0,.int .i64 0,.int .i64 0,.int .i64 0,.int .i64 0,.int .i64 0,.int .i64 0,.int .i64 0,.int .i64 0,.int .i64 0,.float .f64 0] 39 (0,0))) (by kernel_rfl) ⟨XC4,XB⟩ XT2 ?_;rintro w5 hHeld hT5
       refine takeM (v:=.agg #[.int .i64 0,.int .i64 0,.int .i64 0,.int .i64 0,.int .i64 0,.int .i64 0,.int .i64 0,.int .i64 0,.int .i64 0,.int .i64 0,.int .i64 0,.int .i64 0,.int .i64 0,.float .f64 0]) (d:=some 77) 0 rfl rfl hHeld (fun w' _=>by go_simp;(try rfl)) ?_;simp only[puts];refine takeM (d:=some 78) 1 rfl rfl hHeld (fun w' hS'=>by have qA:=hS'.1;clear hS';go_simp;(try rfl)) ?_
       simp only[puts];refine one_M 2 (by kernel_rfl) ?_
       refine row_M 2 39 (.tmp 2) (.tmp 77) rfl rfl rfl (w.heap.size) #[.int .i64 0,.int .i64 0,.int .i64 0,.int .i64 0,.int .i64 0,.int .i64 0,.int .i64 0,.int .i64 0,.int .i64 0,.int .i64 0,.int .i64 0,.int .i64 0,.int .i64 0,.float .f64 0] #[.int .i64 0,.int .i64 0,.int .i64 0,.int .i64 0,.int .i64 0,.int .i64 0,.int .i64 0,.int .i64 0,.int .i64 0,.int .i64 0,.int .i64 0,.int .i64 0,.int .i64 0,.float .f64 0] 39 hT5 rfl rfl (by kernel_rfl) rfl (by simp[Value.oneCell']) ?_
       rintro w6 hK6 hg6;have hg3:(3:Nat)≠w.heap.size:=fun e=>by omega
       refine⟨⟨?_,bel_gr hHeld.2 hg6 (Nat.le_refl _)⟩,fun hHeld=> ?_⟩
       · have h3:=hg6.block 3 (by have:=hHeld.2.size;omega) (fun e=>hg3 (by injection e));have h4:=hHeld.1;rw[←h4];simp[World.cell?,h3]
       refine takeM (d:=some 3) 3 rfl rfl hHeld (fun w' _=>by go_simp;(try rfl)) ?_;simp only[puts];refine doneM (by kernel_rfl) ?_ _;have hB6:=hHeld.2;obtain⟨l6,q6,f6⟩:=hK6;clear hHeld hT5 hg6;go_wp2_with fail
       refine bodyPost_ret (v:=.tuple #[.agg #[.int .i64 0,.int .i64 0,.int .i64 0,.int .i64 0,.int .i64 0,.int .i64 0,.int .i64 0,.int .i64 0,.int .i64 0,.int .i64 0,.int .i64 0,.int .i64 0,.int .i64 0,.float .f64 0],errV (ea 4)]) (by simp[results,Tryz.results103,go_sem,q6,f6]) rfl ?_;exact⟨by rw[HRN.out];rfl,hB6⟩
      | false=>
       have HDK:Hid (false=decide (k=1)):=qq (by simp[hk]);clear hk;go_wp2_with fail;refine(HFR.out _ HB.out).mono ?_;rintro e w3 ⟨rfl,hb3⟩;have HF3:=qq (HF.out.below hb3);have HT3:=qq (hp_be HT.out hb3);have HB3:=qq (below_then HB.out hb3);have hwr3:=HB3.out.size;clear hb3 qf ff lf;obtain⟨lf,qf,ff⟩:=HF3.out;simp only[factC] at qf
       cases okb with
       | true=>
        have HRN:Hid (rv=rdRes (some ⟨k,an,aq,rg,nd,pt,pr,oc,dp,pa,st,hw,de,ex⟩) (ea 4)):=qq (by
          rw[HRV.out,HEN2.out];unfold rdEnd;simp only;rw[if_neg (by rw[←HOK.out];intro h;rcases h with h | h;exact h HDK.out;cases h)])
        go_wp2_with (refine wpList_store_row rfl 39 (.tmp 2) (.tmp 79) rfl (w.heap.size) #[.int .i64 k,.int .i64 an,.int .i64 aq,.int .i64 rg,.int .i64 nd,.int .i64 pt,.int .i64 pr,.int .i64 oc,.int .i64 dp,.int .i64 pa,.int .i64 st,.int .i64 hw,.int .i64 de,.float .f64 ex] rfl rfl 39 #[.int .i64 0,.int .i64 0,.int .i64 0,.int .i64 0,.int .i64 0,.int .i64 0,.int .i64 0,.int .i64 0,.int .i64 0,.int .i64 0,.int .i64 0,.int .i64 0,.int .i64 0,.float .f64 0] HT3.out (by kernel_rfl) rfl (by simp[Value.oneCell']) ?_)
        obtain⟨HFr,hgr⟩:=row_end (cells:= #[.int .i64 k,.int .i64 an,.int .i64 aq,.int .i64 rg,.int .i64 nd,.int .i64 pt,.int .i64 pr,.int .i64 oc,.int .i64 dp,.int .i64 pa,.int .i64 st,.int .i64 hw,.int .i64 de,.float .f64 ex]) HT3.out;obtain⟨l1,q1,f1⟩:=HFr
        refine bodyPost_ret (v:=.tuple #[.agg #[k,an,aq,rg,nd,pt,pr,oc,dp,pa,st,hw,de,.float .f64 ex],.nilIface]) (by simp[results,Tryz.results103,go_sem,q1,f1]) rfl ?_;exact⟨by rw[HRN.out];rfl,bel_gr HB3.out hgr (Nat.le_refl _)⟩
       | false=>
        have HRN:Hid (rv=rdRes none (ea 4)):=qq (by
          rw[HRV.out,HEN2.out];unfold rdEnd;simp only;rw[if_pos (.inr HOK.out.symm)])
        go_wp2_with fail;have XB:=bel_drew HB3.out;have XC4:=HC4.out _ XB;have XT2:=hp_dr HT3.out
        refine reg_start2 (fun w'=>w'.cell? ⟨3,0,none⟩=some (errV (ea 4))∧Below w.heap.size w w') (fun w'=>w'.heap[w.heap.size]? =some (.cells #[.int .i64 0,.int .i64 0,.int .i64 0,.int .i64 0,.int .i64 0,.int .i64 0,.int .i64 0,.int .i64 0,.int .i64 0,.int .i64 0,.int .i64 0,.int .i64 0,.int .i64 0,.float .f64 0] 39 (0,0))) (by kernel_rfl) ⟨XC4,XB⟩ XT2 ?_;rintro w5 hHeld hT5
        refine takeM (v:=.agg #[.int .i64 0,.int .i64 0,.int .i64 0,.int .i64 0,.int .i64 0,.int .i64 0,.int .i64 0,.int .i64 0,.int .i64 0,.int .i64 0,.int .i64 0,.int .i64 0,.int .i64 0,.float .f64 0]) (d:=some 77) 0 rfl rfl hHeld (fun w' _=>by go_simp;(try rfl)) ?_;simp only[puts];refine takeM (d:=some 78) 1 rfl rfl hHeld (fun w' hS'=>by have qA:=hS'.1;clear hS';go_simp;(try rfl)) ?_
        simp only[puts];refine one_M 2 (by kernel_rfl) ?_
        refine row_M 2 39 (.tmp 2) (.tmp 77) rfl rfl rfl (w.heap.size) #[.int .i64 0,.int .i64 0,.int .i64 0,.int .i64 0,.int .i64 0,.int .i64 0,.int .i64 0,.int .i64 0,.int .i64 0,.int .i64 0,.int .i64 0,.int .i64 0,.int .i64 0,.float .f64 0] #[.int .i64 0,.int .i64 0,.int .i64 0,.int .i64 0,.int .i64 0,.int .i64 0,.int .i64 0,.int .i64 0,.int .i64 0,.int .i64 0,.int .i64 0,.int .i64 0,.int .i64 0,.float .f64 0] 39 hT5 rfl rfl (by kernel_rfl) rfl (by simp[Value.oneCell']) ?_
        rintro w6 hK6 hg6;have hg3:(3:Nat)≠w.heap.size:=fun e=>by omega
        refine⟨⟨?_,bel_gr hHeld.2 hg6 (Nat.le_refl _)⟩,fun hHeld=> ?_⟩
        · have h3:=hg6.block 3 (by have:=hHeld.2.size;omega) (fun e=>hg3 (by injection e));have h4:=hHeld.1;rw[←h4];simp[World.cell?,h3]
        refine takeM (d:=some 3) 3 rfl rfl hHeld (fun w' _=>by go_simp;(try rfl)) ?_;simp only[puts];refine doneM (by kernel_rfl) ?_ _;have hB6:=hHeld.2;obtain⟨l6,q6,f6⟩:=hK6;clear hHeld hT5 hg6;go_wp2_with fail
        refine bodyPost_ret (v:=.tuple #[.agg #[.int .i64 0,.int .i64 0,.int .i64 0,.int .i64 0,.int .i64 0,.int .i64 0,.int .i64 0,.int .i64 0,.int .i64 0,.int .i64 0,.int .i64 0,.int .i64 0,.int .i64 0,.float .f64 0],errV (ea 4)]) (by simp[results,Tryz.results103,go_sem,q6,f6]) rfl ?_;exact⟨by rw[HRN.out];rfl,hB6⟩
theorem cell_lt {w:World} {b o:Nat} {v:Value} (h:w.cell? ⟨b,o,none⟩=some v):b<w.heap.size:=by
 by_cases hb:b<w.heap.size
 · exact hb
 · simp[World.cell?,Array.getElem?_eq_none (Nat.le_of_not_lt hb)] at h
theorem EnvS.lt3 {ea:Int→Addr} {w:World} (h:EnvS ea w):3<w.heap.size:=cell_lt h.e.e4
theorem rdStep_F64 {s s':SFact×Bool} {x:Fld} (h:rdStep s x=some s') (hx:F64 s.1.ex) (hb:∀c∈x.d,c<256):F64 s'.1.ex:=by
 unfold rdStep at h;split at h
 · cases hq:fltF x.d with
   | none=>rw[hq] at h;cases h
   | some u=>
    rw[hq] at h;injection h with h
    subst h;exact(fltF_F64 hq hb).1
 · split at h
   · cases h
   · cases hq:numF x.d with
     | none=>rw[hq] at h;cases h
     | some n=>
      rw[hq] at h;injection h with h
      subst h;show F64 (setTag s.1 x.t n).ex
      rw[setTag_ex];exact hx
theorem rdAll_F64:∀(xs:List Fld) (s s':SFact×Bool),rdAll s xs=some s'→F64 s.1.ex→(∀x∈xs,∀c∈x.d,c<256)→F64 s'.1.ex
 | [],s,s',h,hx,_=>by injection h with h;subst h;exact hx
 | x::t,s,s',h,hx,hb=>by
  rw[rdAll_cons] at h
  cases hq:rdStep s x with
  | none=>rw[hq] at h;cases h
  | some s2=>
   rw[hq] at h;exact rdAll_F64 t s2 s' h (rdStep_F64 hq hx (hb x (by simp))) (fun y hy=>hb y (by simp[hy]))
theorem rdFact_F64 {bs:List Nat} {f:SFact} (h:rdFact bs=some f) (hb:∀c∈bs,c<256):F64 f.ex:=by
 cases hx:splitE bs.length bs 0 0 with
 | error n=>rw[rdFact_bad hx] at h;cases h
 | ok xs=>
  rw[rdFact_ok hx] at h
  cases hq:rdAll (fact00,false) xs with
  | none=>rw[hq] at h;cases h
  | some s=>
   rw[hq] at h;obtain⟨g,b⟩:=s;have h1:=rdAll_F64 xs _ _ hq (by unfold F64;decide) (fun x hx'=>((splitE_all _ _ _ _ _ hx hb (by omega)).2 x hx').2.2.2);unfold rdEnd at h;simp only at h;split at h
   · cases h
   · injection h with h
     subst h;exact h1
theorem read_some (a:Option Addr) (bs:List Nat) (cap:Nat) (f:SFact) (ea:Int→Addr) (w:World) (hE:EnvS ea w) (hB:BytesIn w a cap bs) (hl:bs.length≤900) (h:rdFact bs=some f):Calls Tryz.prog 103 #[.slice a bs.length cap] w (Makes (.tuple #[factV f,.nilIface]) w):=by
 cases hx:splitE bs.length bs 0 0 with
 | error n=>rw[rdFact_bad hx] at h;cases h
 | ok xs=>
  have:=read_go a bs cap xs ea w hE hE.lt3 hB hl hx;rw[h] at this;exact this
theorem read_split (a:Option Addr) (bs:List Nat) (cap:Nat) (n:Int) (ea:Int→Addr) (w:World) (hE:EnvS ea w) (hB:BytesIn w a cap bs) (hl:bs.length≤900) (hx:splitE bs.length bs 0 0=.error n):Calls Tryz.prog 103 #[.slice a bs.length cap] w (Makes (.tuple #[factV fact00,errV (ea n)]) w):=by
 have HSP:=qq (fun W (hb:Below w.heap.size w W)=>split_bad a bs cap n ea W (hE.below hb).e (hB.below hb) hl hx)
 have HT2:Hid ((w.alloc (.cells #[.int .i64 0,.int .i64 0,.int .i64 0,.int .i64 0,.int .i64 0,.int .i64 0,.int .i64 0,.int .i64 0,.int .i64 0,.int .i64 0,.int .i64 0,.int .i64 0,.int .i64 0,.float .f64 0] 39)).heap[w.heap.size]? =some (.cells #[.int .i64 0,.int .i64 0,.int .i64 0,.int .i64 0,.int .i64 0,.int .i64 0,.int .i64 0,.int .i64 0,.int .i64 0,.int .i64 0,.int .i64 0,.int .i64 0,.int .i64 0,.float .f64 0] 39 (0,0))):=qq (heap_alloc_new _ _)
 clear hE hB hx;go_enter Tryz.func103,Tryz.ntmps103;go_wp2_with fail;refine(HSP.out _ (by go_grown)).mono ?_;rintro e w1 ⟨rfl,hb1⟩;have HT3:=qq (hp_be HT2.out hb1);have HB1:=qq (below_then (show Below w.heap.size w _ from by go_grown) hb1);clear hb1
 go_wp2_with (refine wpList_store_row rfl 39 (.tmp 2) (.tmp 19) rfl (w.heap.size) #[.int .i64 0,.int .i64 0,.int .i64 0,.int .i64 0,.int .i64 0,.int .i64 0,.int .i64 0,.int .i64 0,.int .i64 0,.int .i64 0,.int .i64 0,.int .i64 0,.int .i64 0,.float .f64 0] rfl rfl 39 #[.int .i64 0,.int .i64 0,.int .i64 0,.int .i64 0,.int .i64 0,.int .i64 0,.int .i64 0,.int .i64 0,.int .i64 0,.int .i64 0,.int .i64 0,.int .i64 0,.int .i64 0,.float .f64 0] HT3.out (by kernel_rfl) rfl (by simp[Value.oneCell']) ?_)
 obtain⟨HFr,hgr⟩:=row_end (cells:= #[.int .i64 0,.int .i64 0,.int .i64 0,.int .i64 0,.int .i64 0,.int .i64 0,.int .i64 0,.int .i64 0,.int .i64 0,.int .i64 0,.int .i64 0,.int .i64 0,.int .i64 0,.float .f64 0]) HT3.out;obtain⟨l1,q1,f1⟩:=HFr
 refine bodyPost_ret (v:=.tuple #[.agg #[.int .i64 0,.int .i64 0,.int .i64 0,.int .i64 0,.int .i64 0,.int .i64 0,.int .i64 0,.int .i64 0,.int .i64 0,.int .i64 0,.int .i64 0,.int .i64 0,.int .i64 0,.float .f64 0],errV (ea n)]) (by simp[results,Tryz.results103,go_sem,q1,f1]) rfl ?_;exact⟨rfl,bel_gr HB1.out hgr (Nat.le_refl _)⟩
theorem read_none (a:Option Addr) (bs:List Nat) (cap:Nat) (ea:Int→Addr) (w:World) (hE:EnvS ea w) (hB:BytesIn w a cap bs) (hl:bs.length≤900) (h:rdFact bs=none):∃n,1≤n∧n≤14∧Calls Tryz.prog 103 #[.slice a bs.length cap] w (Makes (.tuple #[factV fact00,errV (ea n)]) w):=by
 cases hx:splitE bs.length bs 0 0 with
 | error n=>exact⟨n,(splitE_num _ _ _ _ _ hx).1,(splitE_num _ _ _ _ _ hx).2,read_split a bs cap n ea w hE hB hl hx⟩
 | ok xs=>
  have:=read_go a bs cap xs ea w hE hE.lt3 hB hl hx;rw[h] at this;exact⟨4,by omega,by omega,this⟩
def RowsIn (w:World) (a:Option Addr) (rows:List (List Nat)):Prop:=∀(k:Nat) (r:List Nat),rows[k]? =some r→∃b off ra rc,a=some ⟨b,off,none⟩∧b<w.heap.size∧w.cell? ⟨b,off+k,none⟩=some (.slice ra r.length rc)∧BytesIn w ra rc r
theorem RowsIn.below {w w':World} {a:Option Addr} {rows:List (List Nat)} (h:RowsIn w a rows) (hb:Below w.heap.size w w'):RowsIn w' a rows:=fun k r hk=>by
 obtain⟨b,off,ra,rc,h1,h2,h3,h4⟩:=h k r hk;exact⟨b,off,ra,rc,h1,Nat.lt_of_lt_of_le h2 hb.size,(hb.cell (p:=⟨b,off+k,none⟩) h2).trans h3,h4.below hb⟩
def ReplayEnds (node:Int) (rows:List (List Nat)) (ea:Int→Addr) (w:World) (e:Ending) (w':World):Prop:=
 (∀S,sreplay ⟨node,0,[],[]⟩ rows=some S→∃L,e=.returned (.tuple #[.pointer (some ⟨L.sb,0,none⟩),.nilIface])∧StoreAt L S w'∧(∀k∈L.foot,w.heap.size≤k)∧Below w.heap.size w w')∧
 (sreplay ⟨node,0,[],[]⟩ rows=none→e=.returned (.tuple #[.pointer none,errV (ea 5)])∧Below w.heap.size w w')
def srNext (S:Sto) (t:List (List Nat)):Option SFact→Option Sto
 | none=>none
 | some f=>if(sapply S f).2=0 then sreplay (sapply S f).1 t else none
theorem sreplay_cons (S:Sto) (r:List Nat) (t:List (List Nat)):sreplay S (r::t)=srNext S t (rdFact r):=by
 conv=>lhs;unfold sreplay
 cases rdFact r<;>rfl
theorem store_start {w:World} {node:Int} (T:TypeId):StoreAt ⟨w.heap.size,.slice none 0 0,.slice none 0 0,[]⟩ ⟨node,0,[],[]⟩ (w.alloc (.cells #[node,.int .i64 0,.slice none 0 0,.slice none 0 0] T)):=
 ⟨Blk.fresh _ _ _ _ rfl,World.ownsRow_nil _ _ _ _,World.ownsRow_nil _ _ _ _,fun i y a h=>by simp at h,by simp[SLoc.foot,Value.ownBlock,blocks]⟩
theorem errOf_zero (ea:Int→Addr):errOf ea 0=.nilIface:=rfl
theorem errOf_some {ea:Int→Addr} {n:Int} (h:n≠0):errOf ea n=errV (ea n):=by unfold errOf;rw[if_neg h]
theorem replay_of (node : Int) (a : Option Addr) (rows : List (List Nat)) (cap : Nat) (ea : Int → Addr) (w : World) (hE : EnvS ea w) (hnd : 0 ≤ node ∧ node ≤ 3) (hR : RowsIn w a rows) (hl : ∀ r ∈ rows, r.length ≤ 900) (hn : rows.length ≤ 1000) :
    Calls Tryz.prog 28 #[.int .i64 node,.slice a rows.length cap] w (ReplayEnds node rows ea w):=by
 have HN:=qq (fun W=>snew_yes node W hnd);have HG0:Hid (StoGood ⟨node,0,[],[]⟩):=qq (StoGood.new hnd.1 hnd.2);have HEN:=qq (fun W (hb:Below w.heap.size w W)=>hE.below hb);have HRW:=qq hR;have HLL:=qq hl;obtain⟨N,hN⟩:∃n,n=rows.length:=⟨_,rfl⟩
 rw[←hN] at hn⊢;have HNN:=qq hN;clear hE hnd hR hl hN;go_enter Tryz.func28,Tryz.ntmps28;go_wp2_with fail;refine(HN.out _).mono ?_;rintro e w1 ⟨rfl,rfl⟩;have HB1:=qq (show Below w.heap.size w (w.alloc (.cells #[node,.int .i64 0,.slice none 0 0,.slice none 0 0] 154)) from by go_grown);have HS1:=qq (store_start (w:=w) (node:=node) 154);go_wp2_with fail
 go_loopw [22] (fun cc wr=>∃k:Nat,k≤N∧cc=.int .i64 (k:Int)∧Hid (∃S L,L.sb=w.heap.size∧sreplay ⟨node,0,[],[]⟩ rows=sreplay S (rows.drop k)∧StoGood S∧StoreAt L S wr∧(∀j∈L.foot,w.heap.size≤j)∧Below w.heap.size w wr)) (fun cc _=>N - (intOf cc).toNat)
 case atStart=>exact⟨0,by omega,by first | rfl | go_num,qq ⟨_,_,rfl,rfl,HG0.out,HS1.out,(fun j hj=>by simp[SLoc.foot,Value.ownBlock,blocks] at hj;omega),HB1.out⟩⟩
 case round=>
  obtain⟨k,hk,rfl,HI⟩:=hrel;obtain⟨S,L,hsb,hsr,hG,hS,hf,hb⟩:=HI.out;have HSB:=qq hsb;have HSR:=qq hsr;have HG:=qq hG;have HS:=qq hS;have HF:=qq hf;have HB:=qq hb;have hwr:=hb.size;clear HI hsb hsr hG hS hf hb;have hk0:(0:Int)≤(k:Int):=by omega
  by_cases hlt:k<N
  · obtain⟨r,hr⟩:∃r,rows[k]? =some r:=⟨_,List.getElem?_eq_getElem (by have:=HNN.out;omega)⟩
    have hk1:(k:Int)<(N:Int):=by omega
    obtain⟨b,off,ra,rc,rfl,hbl,hc,hB⟩:=HRW.out k r hr;have c0:=(HB.out.cell (p:=⟨b,off+k,none⟩) hbl).trans hc;have HDR:Hid (rows.drop k=r::rows.drop (k+1)):=qq (by obtain⟨hil,he⟩:=List.getElem?_eq_some_iff.1 hr;rw[List.drop_eq_getElem_cons hil,he]);have HBY:=qq (hB.below HB.out);have HRL:=qq (HLL.out r (List.mem_of_getElem? hr));have hbw:b<wr.heap.size:=by omega
    clear hr hc hB hlt
    cases hq:rdFact r with
    | none=>
     obtain⟨en,hn1,hn2,hrd⟩:=read_none ra r rc ea wr (HEN.out _ HB.out) HBY.out HRL.out hq;have HRD:=qq hrd;have HNO:Hid (sreplay ⟨node,0,[],[]⟩ rows=none):=qq (by rw[HSR.out,HDR.out,sreplay_cons,hq];rfl);have hxb:∀W,Below wr.heap.size wr W→W.cell? ⟨4,0,none⟩=some (errV (ea 5)):=fun W hW=>(HEN.out _ (below_then HB.out hW)).e.e5
     have HXB:=qq hxb;clear hq hrd hxb;go_wp2_with fail;refine HRD.out.mono ?_;rintro e w3 ⟨rfl,hb3⟩;have c4:=HXB.out _ hb3;have HB3:=qq (below_then HB.out hb3);have hz3:4<w3.heap.size:=cell_lt c4;clear hb3;simp only[factV,factC,fact00];go_wp2_with fail;go_region
     all_goals (try go_wp2_with fail)
     all_goals refine bodyPost_ret (v:=.tuple #[.pointer none,errV (ea 5)]) (by simp[results,Tryz.results28,go_sem]) rfl ?_
     all_goals exact⟨fun S h=>(by rw[HNO.out] at h;cases h),fun _=>⟨rfl,by have:=HB3.out;have:=HB3.out.size;go_grown⟩⟩
    | some f=>
     have hx:=rdFact_F64 hq HBY.out.byte;have HRD:=qq (read_some ra r rc f ea wr (HEN.out _ HB.out) HBY.out HRL.out hq);have HA:=qq (fun L W (hW:EnvG L ea W) (hs:StoreAt L S W)=>apply_of L S f ea W hx hW hs HG.out);have HGS:=qq (sapply_good (f:=f) HG.out)
     have HST:Hid (sreplay ⟨node,0,[],[]⟩ rows=if(sapply S f).2=0 then sreplay (sapply S f).1 (rows.drop (k+1)) else none):=qq (by rw[HSR.out,HDR.out,sreplay_cons,hq];rfl);obtain⟨T,hT⟩:∃T,T=(sapply S f).1:=⟨_,rfl⟩
     obtain⟨en,hen⟩:∃en,en=(sapply S f).2:=⟨_,rfl⟩
     rw[←hT,←hen] at HA HST;rw[←hT] at HGS;clear hx hq hT hen HSR;obtain⟨k',an,aq,rg,nd,pt,pr,oc,dp,pa,st,hw,de,ex⟩:=f;simp only[factV,factC,ApplyEnds] at HRD HA;go_wp2_with fail;refine HRD.out.mono ?_;rintro e w3 ⟨rfl,hb3⟩;have HB3:=qq (bel_alloc (below_then HB.out hb3) (.cells #[k',an,aq,rg,nd,pt,pr,oc,dp,pa,st,hw,de,.float .f64 ex] 39))
     have HS3:=qq ((HS.out.below hb3).below ((Below.refl _ _).alloc (Nat.le_refl _) (.cells #[k',an,aq,rg,nd,pt,pr,oc,dp,pa,st,hw,de,.float .f64 ex] 39)));have hz3:=hb3.size;clear hb3 HS HBY;rw[←HSB.out];go_wp2_with fail;refine(HA.out L _ (envG_of (HEN.out w (Below.refl _ _)) HB3.out HF.out) HS3.out).mono ?_;rintro e w4 ⟨rfl,hs⟩;obtain⟨L2,hL2,hS4,hgo⟩:=hs
     have HB4:=qq (HB3.out.trans (hgo.below HF.out HB3.out.size));have HF4:=qq (fun j (hj:j∈L2.foot)=>(hgo.new j hj).elim (HF.out j) (fun h=>Nat.le_trans HB3.out.size h));have HS4:=qq hS4;have HL2:=qq hL2;clear hS4 hL2 hgo;by_cases he:en=0
     · subst he;have HST2:Hid (sreplay ⟨node,0,[],[]⟩ rows=sreplay T (rows.drop (k+1))):=qq (by rw[HST.out,if_pos rfl]);rw[errOf_zero];go_wp2_with fail;rw[HSB.out];go_roundw
       case rel=>exact⟨k+1,by omega,by go_num,qq ⟨T,L2,by rw[HL2.out,HSB.out],HST2.out,HGS.out,HS4.out,HF4.out,HB4.out⟩⟩
       case measure=>simp[intOf];omega
     · have HNO:Hid (sreplay ⟨node,0,[],[]⟩ rows=none):=qq (by rw[HST.out,if_neg he]);rw[errOf_some he];have c4:w4.cell? ⟨4,0,none⟩=some (errV (ea 5)):=(HEN.out _ HB4.out).e.e5;have hz4:4<w4.heap.size:=cell_lt c4;clear he;go_wp2_with fail;go_region
       all_goals (try go_wp2_with fail)
       all_goals refine bodyPost_ret (v:=.tuple #[.pointer none,errV (ea 5)]) (by simp[results,Tryz.results28,go_sem]) rfl ?_
       all_goals exact⟨fun S h=>(by rw[HNO.out] at h;cases h),fun _=>⟨rfl,by have:=HB4.out;have:=HB4.out.size;go_grown⟩⟩
  · obtain rfl:k=N:=by omega
    have HEND:Hid (sreplay ⟨node,0,[],[]⟩ rows=some S):=qq (by rw[HSR.out,List.drop_eq_nil_of_le (by have:=HNN.out;omega)];rfl);clear HSR hlt;go_wp2_with fail;refine bodyPost_ret (v:=.tuple #[.pointer (some ⟨w.heap.size,0,none⟩),.nilIface]) (by simp[results,Tryz.results28,go_sem]) rfl ?_
    exact⟨fun T h=>(by rw[HEND.out] at h;injection h with h;subst h;exact⟨L,by rw[HSB.out],HS.out,HF.out,HB.out⟩),fun h=>(by rw[HEND.out] at h;cases h)⟩
theorem room_put {S T:Sto} {f:SFact} (hG:StoGood S) (hr:SRoom S) (hf:fok f=true) (h:sput S f=some T):SRoom T:=by
 have hT:=sput_good hG hf h;unfold sput at h;by_cases k1:f.k=1
 · rw[if_pos k1] at h;split at h
   · cases h
   · rename_i hc
     injection h with h
     subst h;intro _ hno;exfalso;refine sfind_none hno ⟨f.an,f.aq,f.oc,f.dp,f.ex,f.pa,0,[]⟩ (by simp) ⟨?_,?_⟩
     · have:=not_or.1 hc;exact Decidable.byContradiction this.1
     · show f.aq=f.aq+1 - 1
       omega
 rw[if_neg k1] at h;by_cases k6:f.k=6
 · rw[if_pos k6] at h;split at h
   · cases h
   · injection h with h
     subst h;exact hr
 rw[if_neg k6] at h;by_cases k7:f.k=7∨f.k=8
 · rw[if_pos k7] at h;split at h
   · cases h
   · split at h
     · obtain⟨t,_,rfl⟩:=Option.map_eq_some_iff.1 h;exact hr
     · split at h
       · cases h
       · injection h with h
         subst h;exact hr
 rw[if_neg k7] at h;split at h
 · cases h
 · rename_i i hi
   split at h
   · cases h
   · rename_i a ha
     obtain⟨hil,hie⟩:=List.getElem?_eq_some_iff.1 ha;have h8:=hG.acts;split at h
     · split at h
       · cases h
       · injection h with h
         subst h;intro _ _;simp only[List.length_append,List.length_take,List.length_drop];omega
     · rename_i k5
       obtain⟨b,hb,rfl⟩:=Option.map_eq_some_iff.1 h;have hk:f.k=2∨f.k=3∨f.k=4:=by have:=fok_any hf;omega
       have hA:=hG.act a (List.mem_of_getElem? ha);obtain⟨hB,haq,_⟩:=sact_some hA hf hk hb;intro h0 hno;have hlen:(S.acts.set i b).length=S.acts.length:=List.length_set;show(S.acts.set i b).length<8
       rw[hlen];refine hr h0 ?_;have hn:=sfind_none hno;unfold sfind;rw[List.findIdx?_eq_none_iff];intro c hc;obtain⟨j,hj,rfl⟩:=List.getElem_of_mem hc;by_cases hji:j=i
       · subst hji;have:=hn b (by rw[List.mem_iff_getElem];exact⟨j,by rw[hlen];exact hj,by simp⟩);rw[hie];have e1:=hA.id.1;have e2:=hB.id.1;simp only[decide_eq_false_iff_not];rintro⟨e3,e4⟩;exact this ⟨by rw[e2],by rw[haq];exact e4⟩
       · have:=hn S.acts[j] (by rw[List.mem_iff_getElem];exact⟨j,by rw[hlen];exact hj,by rw[List.getElem_set_ne (by omega)]⟩);simpa using this
theorem room_apply {S:Sto} {f:SFact} (hG:StoGood S) (hr:SRoom S):SRoom (sapply S f).1:=by
 unfold sapply;split
 · exact hr
 · rename_i hf
   split
   · exact hr
   · rename_i T hT
     exact room_put hG hr (by simpa using hf) hT
theorem room_new (n:Int):SRoom ⟨n,0,[],[]⟩:=fun h _=>absurd h (by simp)
def lowB:Nat→Nat→List Nat
 | 0,_=>[]
 | k+1,n=>if n=0 then[] else(n % 256)::lowB k (n / 256)
def numB (n:Nat):List Nat:=(lowB 8 n).reverse
theorem lowB_byte:∀(k n:Nat),∀c∈lowB k n,c<256
 | 0,n,c,h=>by cases h
 | k+1,n,c,h=>by
  unfold lowB at h;split at h
  · cases h
  · rcases List.mem_cons.1 h with rfl | h
    · exact Nat.mod_lt _ (by decide)
    · exact lowB_byte k _ c h
theorem lowB_len:∀(k n:Nat),(lowB k n).length≤k
 | 0,_=>Nat.le_refl _
 | k+1,n=>by
  unfold lowB;split
  · simp
  · have:=lowB_len k (n / 256);simp only[List.length_cons];omega
theorem lowB_bval:∀(k n:Nat),n<256 ^ k→bval (lowB k n).reverse=n
 | 0,n,h=>by simp at h;subst h;rfl
 | k+1,n,h=>by
  unfold lowB;split
  · rename_i h0;subst h0;rfl
  · rw[List.reverse_cons,bval_snoc,lowB_bval k (n / 256) (by rw[Nat.pow_succ] at h;omega)];omega
theorem lowB_head:∀(k n:Nat),n<256 ^ k→n≠0→(lowB k n).reverse≠[]∧(lowB k n).reverse.head? ≠some 0
 | 0,n,h,h0=>by simp at h;exact absurd h h0
 | k+1,n,h,h0=>by
  unfold lowB;rw[if_neg h0,List.reverse_cons];refine⟨by simp,?_⟩;by_cases hd:n / 256=0
  · rw[hd];have e:lowB k 0=[]:=by cases k<;>simp[lowB]
    rw[e];simp;omega
  · obtain⟨h1,h2⟩:=lowB_head k (n / 256) (by rw[Nat.pow_succ] at h;omega) hd
    cases hq:(lowB k (n / 256)).reverse with
    | nil=>exact absurd hq h1
    | cons x y=>rw[hq] at h2;exact h2
theorem numF_numB {n:Nat} (h0:n≠0) (h:n<9223372036854775808):numF (numB n)=some n∧numB n≠[]∧(numB n).length≤8∧∀c∈numB n,c<256:=by
 have h8:n<256 ^ 8:=by have e:(256:Nat) ^ 8=18446744073709551616:=(by decide);omega
 have hb:∀c∈numB n,c<256:=fun c hc=>lowB_byte 8 n c (List.mem_reverse.1 hc)
 have hl:(numB n).length≤8:=by unfold numB;rw[List.length_reverse];exact lowB_len 8 n
 obtain⟨h1,h2⟩:=lowB_head 8 n h8 h0;have hv:bval (numB n)=n:=lowB_bval 8 n h8;refine⟨?_,h1,hl,hb⟩;rw[numF_big hb hl h2,hv,if_pos (by omega)]
def lowE:Nat→Nat→List Nat
 | 0,_=>[]
 | k+1,n=>(n % 256)::lowE k (n / 256)
def fltB (x:Nat):List Nat:=(lowE 8 (fplain x)).reverse
theorem lowE_byte:∀(k n:Nat),∀c∈lowE k n,c<256
 | 0,n,c,h=>by cases h
 | k+1,n,c,h=>by
  unfold lowE at h;rcases List.mem_cons.1 h with rfl | h
  · exact Nat.mod_lt _ (by decide)
  · exact lowE_byte k _ c h
theorem lowE_len:∀(k n:Nat),(lowE k n).length=k
 | 0,_=>rfl
 | k+1,n=>by unfold lowE;rw[List.length_cons,lowE_len]
theorem lowE_bval:∀(k n:Nat),n<256 ^ k→bval (lowE k n).reverse=n
 | 0,n,h=>by simp at h;subst h;rfl
 | k+1,n,h=>by
  unfold lowE;rw[List.reverse_cons,bval_snoc,lowE_bval k (n / 256) (by rw[Nat.pow_succ] at h;omega)];omega
theorem fltF_fltB {x:Nat} (h:F64 x):fltF (fltB x)=some (fplain x)∧(fltB x).length=8∧∀c∈fltB x,c<256:=by
 have hp:=fplain_F64 h;have hl:(fltB x).length=8:=by unfold fltB;rw[List.length_reverse,lowE_len]
 have hv:bval (fltB x)=fplain x:=lowE_bval 8 _ (by have e:(256:Nat) ^ 8=18446744073709551616:=(by decide);unfold F64 at hp;omega);refine⟨?_,hl,fun c hc=>lowE_byte 8 _ c (List.mem_reverse.1 hc)⟩;unfold fltF;rw[if_neg (by omega),hv,fplain_twice,if_pos rfl]
def joinB (xs:List Fld):List Nat:=xs.flatMap fun x=>x.t::(x.d.length / 256)::(x.d.length % 256)::x.d
def RowOk:Nat→List Fld→Prop
 | _,[]=>True
 | last,x::t=>last<x.t∧x.d.length≤200∧RowOk x.t t
theorem split_join:∀(xs:List Fld) (f last cnt:Nat),RowOk last xs→cnt+xs.length≤16→(joinB xs).length≤f→splitE f (joinB xs) last cnt=.ok xs
 | [],f,last,cnt,_,_,_=>by cases f<;>simp[joinB,splitE]
 | x::t,f,last,cnt,hr,hc,hf=>by
  obtain⟨h1,h2,h3⟩:=hr;have hj:joinB (x::t)=x.t::(x.d.length / 256)::(x.d.length % 256)::(x.d ++joinB t):=by simp[joinB]
  have hc':cnt+(t.length+1)≤16:=by simpa using hc
  rw[hj] at hf⊢
  match f,hf with
  | f+1,hf=>
   have hm:x.d.length / 256*256+x.d.length % 256=x.d.length:=Nat.div_add_mod' _ _;have hfe:fldE (x.t::(x.d.length / 256)::(x.d.length % 256)::(x.d ++joinB t)) last cnt=.ok (x,joinB t):=by
    rw[fldE_three,hm,if_neg (by omega),if_neg (by simp)];simp
   unfold splitE;rw[if_neg (by simp),hfe];simp only;rw[split_join t f x.t (cnt+1) h3 (by omega) (by simp at hf;omega)]
end Go.Proofs.YtlkajejbfojkeaaGreatDoor
