/- StoG, FbR, FbS, PaB, BuA, StepR, FbT, FbW, FbX, FbY, FbU, FbV, FbZ -/
import Derived.Test.YtlkajejbfojkeaaGreatDoorKQq
import Derived.Test.YtlkajejbfojkeaaGreatDoorKStepToStoR
import Derived.Test.YtlkajejbfojkeaaGreatDoorRows
import Derived.WalkKit
import Derived.WalkSpells
import Derived.WalkLawsBesides
import Derived.BigQuiet
import Derived.Deep.QuietTactic
import Derived.StillTailTactics
import Derived.Handy
import Derived.Lib.Hide
import Derived.Test.YtlkajejbfojkeaaGreatDoorKStoUToFacI
import Derived.Test.YtlkajejbfojkeaaGreatDoorKFacDToStoC
import Derived.Laws.Tables
import Derived.Test.YtlkajejbfojkeaaGreatDoorKStoSToRfcA
import Derived.Test.YtlkajejbfojkeaaGreatDoorKRfcBToStepR
import Derived.Test.YtlkajejbfojkeaaGreatDoorKFacB
import Derived.Test.YtlkajejbfojkeaaGreatDoorKFbGToTabM
import Derived.Shelf.SlGeneric
import Derived.Ground.SlgnProg
import Derived.Shelf.SlicesE.Reverse
import Derived.Lib.OwnBridge
import Derived.Test.YtlkajejbfojkeaaGreatDoorKLoSToFbF
set_option linter.unusedSimpArgs false
set_option linter.unusedVariables false
set_option maxRecDepth 100000
set_option maxHeartbeats 16000000
namespace Go.Proofs.YtlkajejbfojkeaaGreatDoor
theorem ctxOk_oc {n q oc dp:Int} {ex:Nat} (h:ctxOk n q oc dp ex=true):(oc=1∨oc=2)∧0≤dp∧dp≤3:=by
 unfold ctxOk at h;simp only[Bool.and_eq_true,decide_eq_true_eq] at h;exact h.2
theorem mright_all {x:MSeat} (h:mRight x=true):(x.p=1∨x.p=2)∧(x.d=1∨x.d=2)∧(1≤x.s∧x.s≤14)∧(x.s=14→x.h=1∨4≤x.h∧x.h≤8)∧(x.s≠14→x.h=0):=by
 unfold mRight rWait at h;rw[Bool.and_eq_true,decide_eq_true_iff] at h;obtain⟨h1,h2⟩:=h;have hs:rSide x.p x.d=true:=by
  cases hq:rSide x.p x.d with
  | true=>rfl
  | false=>rw[if_pos hq] at h1;simp at h1
 rw[if_neg (by rw[hs];simp)] at h1;have hh:rHas x.p x.d x.s=true:=by
  cases hq:rHas x.p x.d x.s with
  | true=>rfl
  | false=>rw[if_pos hq] at h1;simp at h1
 unfold rSide at hs;unfold rHas at hh;simp only[decide_eq_true_iff] at hs hh;refine⟨by omega,by omega,by omega,fun he=> ?_,fun he=> ?_⟩
 · rw[if_pos he] at h2;simp at h2;omega
 · rw[if_neg he] at h2;simpa using h2
def sgo:Sto→List SFact→Option Sto
 | S,[]=>some S
 | S,f::t=>if(sapply S f).2=0 then sgo (sapply S f).1 t else none
theorem sgo_cons {S T:Sto} {f:SFact} {t:List SFact} (hf:fok f=true) (hp:sput S f=some T):sgo S (f::t)=sgo T t:=by
 have h:sapply S f=(T,0):=by unfold sapply;rw[if_neg (by rw[hf];simp),hp]
 show(if(sapply S f).2=0 then sgo (sapply S f).1 t else none)=_
 rw[h,if_pos rfl]
def partF (i:Int) (p:SPart):List SFact:=
 ⟨6,p.an,p.aq,0,0,i,p.seat.p,0,0,0,0,0,0,0⟩::((if p.rg= -1 then[] else[⟨7,0,0,p.rg,0,i,0,0,0,0,0,0,0,0⟩]) ++(if p.seat.s=1 then[] else[⟨8,0,0,0,0,i,0,0,0,0,p.seat.s,p.seat.h,0,0⟩]))
def partsF:Nat→List SPart→List SFact
 | _,[]=>[]
 | i,p::t=>partF i p ++partsF (i+1) t
def enrF (a:SAct):Nat→List SReg→List SFact
 | _,[]=>[]
 | i,r::t=>⟨2,a.an,a.aq,i,r.n,r.p,r.seat.p,0,0,0,0,0,0,0⟩::enrF a (i+1) t
def seatF (a:SAct):Nat→List SReg→List SFact
 | _,[]=>[]
 | i,r::t=>(if r.seat.s=1 then[] else[⟨3,a.an,a.aq,i,0,0,0,0,0,0,r.seat.s,r.seat.h,0,0⟩]) ++seatF a (i+1) t
def actF (a:SAct):List SFact:=
 ⟨1,a.an,a.aq,0,0,0,0,a.oc,a.dp,a.pa,0,0,0,a.ex⟩::(enrF a 0 a.regs ++(seatF a 0 a.regs ++(if a.de=0 then[] else[⟨4,a.an,a.aq,0,0,0,0,0,0,0,0,0,a.de,0⟩])))
def lastF (S:Sto):List SFact:=
 if 0<S.next∧sfind S S.node (S.next - 1)=none then[⟨1,S.node,S.next - 1,0,0,0,0,1,0,0,0,0,0,0⟩,⟨5,S.node,S.next - 1,0,0,0,0,0,0,0,0,0,0,0⟩] else[]
def sfacts (S:Sto):List SFact:=partsF 0 S.parts ++(S.acts.flatMap actF ++lastF S)
theorem set_last {α:Type} (l:List α) (x y:α):(l ++ [x]).set l.length y=l ++ [y]:=by
 rw[List.set_append_right _ _ (Nat.le_refl _)];simp
theorem get_last {α:Type} (l:List α) (x:α):(l ++ [x])[l.length]? =some x:=by simp
theorem sgo_part {S:Sto} {p:SPart} (t:List SFact) (hp:PGood p) (hl:S.parts.length<8):sgo S (partF S.parts.length p ++t)=sgo {S with parts:=S.parts ++ [p]} t:=by
 obtain⟨an,aq,rg,⟨sp,sd,ss,sh⟩⟩:=p;obtain⟨h1,h2,h3,h4⟩:=hp;obtain⟨m1,_,m3,m4,m5⟩:=mright_all h4;dsimp only at*;subst h3;have hi0:(0:Int)≤(S.parts.length:Int):=by omega
 unfold partF;rw[List.cons_append,sgo_cons (T:={S with parts:=S.parts ++ [⟨an,aq,-1,⟨sp,2,1,0⟩⟩]}) (by
   unfold fok;simp only[h1];simp;omega) (by unfold sput;simp)]
 have hst:stOk ss sh=true:=by
  unfold stOk;split
  · rename_i he;have:=m4 he;simpa using this
  · rename_i he;have:=m5 he;simp;omega
 have seat1:ss=1→(⟨sp,2,1,0⟩:MSeat)=⟨sp,2,ss,sh⟩:=fun he=>by rw[he,m5 (by omega)]
 rw[List.append_assoc];have turn:∀(rg':Int),sgo {S with parts:=S.parts ++ [⟨an,aq,rg',⟨sp,2,1,0⟩⟩]} ((if ss=1 then[] else[⟨8,0,0,0,0,(S.parts.length:Int),0,0,0,0,ss,sh,0,0⟩]) ++t)=sgo {S with parts:=S.parts ++ [⟨an,aq,rg',⟨sp,2,ss,sh⟩⟩]} t:=fun rg'=>by
  by_cases he:ss=1
  · rw[if_pos he,seat1 he];rfl
  · rw[if_neg he];refine sgo_cons ?_ ?_
    · unfold fok;simp[hst];omega
    · unfold sput;simp only[Int.toNat_natCast,get_last,set_last];simp[sturn,h4]
 by_cases hr:rg= -1
 · subst hr;rw[if_pos rfl];exact turn (-1)
 · rw[if_neg hr];rw[List.cons_append,List.nil_append,sgo_cons (T:={S with parts:=S.parts ++ [⟨an,aq,rg,⟨sp,2,1,0⟩⟩]}) ?_ ?_]
   · exact turn rg
   · unfold fok;simp;omega
   · unfold sput;simp only[Int.toNat_natCast,get_last,set_last];simp
theorem sgo_parts:∀(ps:List SPart) (S:Sto) (t:List SFact),(∀p∈ps,PGood p)→S.parts.length+ps.length≤8→sgo S (partsF S.parts.length ps ++t)=sgo {S with parts:=S.parts ++ps} t
 | [],S,t,_,_=>by simp[partsF]
 | p::ps,S,t,hp,hl=>by
  have hl':S.parts.length+(ps.length+1)≤8:=by simpa using hl
  unfold partsF;rw[List.append_assoc,sgo_part _ (hp p (by simp)) (by omega)];have h:=sgo_parts ps {S with parts:=S.parts ++ [p]} t (fun q hq=>hp q (by simp[hq])) (by simp;omega);simp only[List.length_append,List.length_cons,List.length_nil,Nat.zero_add,List.append_assoc,List.cons_append,List.nil_append] at h;exact h
theorem stOk_right {x:MSeat} (h:mRight x=true):stOk x.s x.h=true:=by
 obtain⟨_,_,m3,m4,m5⟩:=mright_all h;unfold stOk;split
 · rename_i he;have:=m4 he;simpa using this
 · rename_i he;have:=m5 he;simp;omega
def plus (S:Sto) (b:SAct) (nx:Int):Sto:={S with next:=nx,acts:=S.acts ++ [b]}
theorem sfind_last {S:Sto} {b:SAct} {nx:Int} (h:∀c∈S.acts,c.aq<b.aq):sfind (plus S b nx) b.an b.aq=some S.acts.length:=by
 unfold sfind plus;rw[List.findIdx?_append];have h0:S.acts.findIdx? (fun a=>decide (a.an=b.an∧a.aq=b.aq))=none:=by
  rw[List.findIdx?_eq_none_iff];intro c hc;have:=h c hc;simp;omega
 rw[h0];simp
theorem sgo_step {S:Sto} {b b':SAct} {nx:Int} {f:SFact} {t:List SFact} (h:∀c∈S.acts,c.aq<b.aq) (hf:fok f=true) (hk:f.k=2∨f.k=3∨f.k=4) (hn:f.an=b.an) (hq:f.aq=b.aq) (hs:sact b f=some b'):sgo (plus S b nx) (f::t)=sgo (plus S b' nx) t:=by
 refine sgo_cons hf ?_;have hfi:=sfind_last (nx:=nx) h;rw[←hn,←hq] at hfi;unfold sput;rw[if_neg (by omega),if_neg (by omega),if_neg (by omega),hfi];have hg:(plus S b nx).acts[S.acts.length]? =some b:=get_last _ _;simp only[hg];rw[if_neg (by omega),hs];simp only[Option.map_some];congr 1;unfold plus;simp only[set_last]
def fresh (r:SReg):SReg:=⟨r.n,r.p,⟨r.seat.p,1,1,0⟩⟩
theorem fresh_seat {r:SReg} (hd:r.seat.d=1) (hm:mRight r.seat=true) (h1:r.seat.s=1):fresh r=r:=by
 obtain⟨n,p,⟨sp,sd,ss,sh⟩⟩:=r;obtain⟨_,_,_,_,m5⟩:=mright_all hm;dsimp only at*;subst hd h1;unfold fresh;rw[m5 (by omega)]
theorem sgo_enr {S : Sto} {a : SAct} {nx : Int} (h : ∀ c ∈ S.acts, c.aq < a.aq) (hid : idOk a.an a.aq = true) (t : List SFact) : ∀ (rs rs0 : List SReg), (∀ r ∈ rs, 0 ≤ r.n ∧ r.n ≤ 3 ∧ 0 ≤ r.p ∧ r.p ≤ 7 ∧ r.seat.d = 1 ∧ mRight r.seat = true) → ((rs0 ++ rs).Pairwise fun r t => ¬ (r.n = t.n ∧ r.p = t.p)) → rs0.length + rs.length ≤ 6 →
    sgo (plus S {a with de:=0,regs:=rs0.map fresh} nx) (enrF a rs0.length rs ++t)=sgo (plus S {a with de:=0,regs:=(rs0 ++rs).map fresh} nx) t
 | [],rs0,_,_,_=>by simp[enrF]
 | r::rs,rs0,hr,hp,hl=>by
  have hl':rs0.length+(rs.length+1)≤6:=by simpa using hl
  obtain⟨r1,r2,r3,r4,r5,r6⟩:=hr r (by simp);obtain⟨m1,_⟩:=mright_all r6;unfold enrF;rw[List.cons_append,sgo_step (b':={a with de:=0,regs:=(rs0 ++ [r]).map fresh}) (by exact h) ?_ (.inl rfl) rfl rfl ?_]
  · have ih:=sgo_enr (nx:=nx) h hid t rs (rs0 ++ [r]) (fun q hq=>hr q (by simp[hq])) (by simpa using hp) (by simp;omega);simp only[List.length_append,List.length_cons,List.length_nil,Nat.zero_add,List.append_assoc,List.cons_append,List.nil_append] at ih;exact ih
  · unfold fok;simp[hid];omega
  · unfold sact;rw[if_pos rfl,if_neg]
    · simp[fresh]
    · rintro(e | e | e)
      · simp at e
      · exact e rfl
      · simp only[List.any_map,List.any_eq_true,Function.comp_apply,decide_eq_true_iff] at e;obtain⟨q,hq,e1⟩:=e;rw[List.pairwise_append] at hp;exact hp.2.2 q hq r (by simp) e1
theorem sgo_seat {S : Sto} {a : SAct} {nx : Int} (h : ∀ c ∈ S.acts, c.aq < a.aq) (hid : idOk a.an a.aq = true) (t : List SFact) : ∀ (rs rs0 : List SReg), (∀ r ∈ rs, r.seat.d = 1 ∧ mRight r.seat = true) → rs0.length + rs.length ≤ 6 →
    sgo (plus S {a with de:=0,regs:=rs0 ++rs.map fresh} nx) (seatF a rs0.length rs ++t)=sgo (plus S {a with de:=0,regs:=rs0 ++rs} nx) t
 | [],rs0,_,_=>by simp[seatF]
 | r::rs,rs0,hr,hl=>by
  have hl':rs0.length+(rs.length+1)≤6:=by simpa using hl
  obtain⟨r5,r6⟩:=hr r (by simp);have ih:=sgo_seat (nx:=nx) h hid t rs (rs0 ++ [r]) (fun q hq=>hr q (by simp[hq])) (by simp;omega);simp only[List.length_append,List.length_cons,List.length_nil,Nat.zero_add,List.append_assoc,List.cons_append,List.nil_append] at ih;unfold seatF;by_cases h1:r.seat.s=1
  · rw[if_pos h1,List.nil_append,List.map_cons,fresh_seat r5 r6 h1];exact ih
  · rw[if_neg h1,List.append_assoc,List.cons_append,List.nil_append,sgo_step (b':={a with de:=0,regs:=rs0 ++r::rs.map fresh}) (by exact h) ?_ (.inr (.inl rfl)) rfl rfl ?_]
    · exact ih
    · unfold fok;simp[hid,stOk_right r6];omega
    · unfold sact;rw[if_neg (show ¬(3:Int)=2 by decide),if_pos rfl];simp only[Int.toNat_natCast,List.map_cons];rw[List.getElem?_append_right (Nat.le_refl _)];simp only[Nat.sub_self,List.getElem?_cons_zero];have hst:sturn (fresh r).seat r.seat.s r.seat.h=some r.seat:=by
       obtain⟨n,p,⟨sp,sd,ss,sh⟩⟩:=r;dsimp only at*;subst r5;simp[sturn,fresh,r6]
      rw[hst];simp[fresh]
theorem sgo_act {S:Sto} {a:SAct} (t:List SFact) (np:Nat) (nx:Int) (hA:AGood S.node nx np a) (hn:S.next≤a.aq) (hlt:∀c∈S.acts,c.aq<a.aq) (hl:S.acts.length<8) (hnp:np=S.parts.length) (hnp8:np≤8) (hc:0<a.pa→∀c∈S.acts,c.pa≠a.pa):sgo S (actF a ++t)=sgo (plus S a (a.aq+1)) t:=by
 have hid:=ctxOk_id hA.ctx;have hidk:idOk a.an a.aq=true:=(idOk_iff _ _).2 hid;unfold actF;rw[List.cons_append,sgo_cons (T:=plus S {a with de:=0,regs:=[]} (a.aq+1)) ?_ ?_]
 · have h1:=sgo_enr (S:=S) (nx:=a.aq+1) hlt hidk ((seatF a 0 a.regs ++(if a.de=0 then[] else[⟨4,a.an,a.aq,0,0,0,0,0,0,0,0,0,a.de,0⟩])) ++t) a.regs [] hA.reg (by simpa using hA.once) (by simpa using hA.len)
   have h2:=sgo_seat (S:=S) (nx:=a.aq+1) hlt hidk ((if a.de=0 then[] else[⟨4,a.an,a.aq,0,0,0,0,0,0,0,0,0,a.de,0⟩]) ++t) a.regs [] (fun r hr=>⟨(hA.reg r hr).2.2.2.2.1,(hA.reg r hr).2.2.2.2.2⟩) (by simpa using hA.len);simp only[List.map_nil,List.length_nil,List.nil_append,List.append_assoc] at h1 h2⊢;rw[h1,h2];by_cases hd:a.de=0
   · rw[if_pos hd,List.nil_append];obtain⟨an,aq,oc,dp,ex,pa,de,regs⟩:=a;dsimp only at hd;subst hd;rfl
   · rw[if_neg hd,List.cons_append,List.nil_append,sgo_step (b':=a) (by exact hlt) ?_ (.inr (.inr rfl)) rfl rfl ?_]
     · have:=hA.de;unfold fok;simp[hidk];omega
     · have:=hA.de;unfold sact;rw[if_neg (show ¬(4:Int)=2 by decide),if_neg (show ¬(4:Int)=3 by decide),if_neg (by simp;omega)]
 · have:=hA.pa;unfold fok;simp only[hA.ctx];simp;omega
 · have h3:=hA.id;have h4:=hA.pa;unfold sput;rw[if_pos rfl,if_neg]
   · rfl
   · rintro(e | e | e | ⟨e,e2⟩)
     · exact e hA.id.1
     · dsimp only at e;omega
     · omega
     · dsimp only at e e2;rcases e2 with e2 | e2
       · omega
       · have hs:schild S a.pa=none:=by
          unfold schild;rw[List.findIdx?_eq_none_iff];intro c hcc;simpa using hc e c hcc
         rw[hs] at e2
         cases e2
def SRoom (S:Sto):Prop:=0<S.next→sfind S S.node (S.next - 1)=none→S.acts.length<8
theorem sfind_none {S:Sto} {n q:Int} (h:sfind S n q=none):∀a∈S.acts,¬(a.an=n∧a.aq=q):=by
 unfold sfind at h;rw[List.findIdx?_eq_none_iff] at h;intro a ha e;have:=h a ha;simp[e.1,e.2] at this
def nextOf (z:Int):List SAct→Int
 | []=>z
 | a::t=>nextOf (a.aq+1) t
theorem sgo_acts : ∀ (az : List SAct) (S : Sto) (nx : Int) (t : List SFact), (∀ a ∈ az, AGood S.node nx S.parts.length a) → (∀ a ∈ az, S.next ≤ a.aq) → (S.acts ++ az).Pairwise (fun a b => a.aq < b.aq) → (S.acts ++ az).Pairwise (fun a b => 0 < a.pa → a.pa ≠ b.pa) → S.acts.length + az.length ≤ 8 → S.parts.length ≤ 8 →
    sgo S (az.flatMap actF ++t)=sgo {S with next:=nextOf S.next az,acts:=S.acts ++az} t
 | [],S,nx,t,_,_,_,_,_,_=>by simp[nextOf]
 | a::az,S,nx,t,hA,hn,hs,hc,hl,hp=>by
  have hl':S.acts.length+(az.length+1)≤8:=by simpa using hl
  have hs2:=List.pairwise_append.1 hs;have hc2:=List.pairwise_append.1 hc;rw[List.flatMap_cons,List.append_assoc,sgo_act (S:=S) _ S.parts.length nx (hA a (by simp)) (hn a (by simp)) (fun c hc'=>hs2.2.2 c hc' a (by simp)) (by omega) rfl hp (fun hpa c hc' e=>by
    have:=hc2.2.2 c hc' a (by simp) (by rw[e];exact hpa);exact this e)]
  have ih:=sgo_acts az (plus S a (a.aq+1)) nx t (fun b hb=>hA b (by simp[hb])) (fun b hb=>by
    have:=(List.pairwise_cons.1 hs2.2.1).1 b hb;show a.aq+1≤b.aq
    omega) (by simpa[plus] using hs) (by simpa[plus] using hc) (by simp[plus];omega) hp
  rw[ih];simp[plus,nextOf]
theorem nextOf_last:∀(az:List SAct) (z:Int) (n:Int),az.Pairwise (fun a b=>a.aq<b.aq)→(∀a∈az,a.aq<n)→(az=[]→z=n)→(az≠[]→∃a∈az,a.aq=n - 1)→nextOf z az=n
 | [],z,n,_,_,h,_=>h rfl
 | [a],z,n,_,_,_,h=>by
  obtain⟨b,hb,he⟩:=h (by simp);obtain rfl:=List.mem_singleton.1 hb;show b.aq+1=n
  omega
 | a::b::t,z,n,hs,hlt,_,h=>by
  have hs2:=List.pairwise_cons.1 hs;refine nextOf_last (b::t) (a.aq+1) n hs2.2 (fun c hc=>hlt c (by simp[hc])) (fun e=>by simp at e) (fun _=> ?_);obtain⟨c,hc,he⟩:=h (by simp);rcases List.mem_cons.1 hc with rfl | hc
  · have h1:=hs2.1 b (by simp);have h2:=hlt b (by simp);omega
  · exact⟨c,hc,he⟩
theorem nextOf_le:∀(az:List SAct) (z n:Int),z≤n→(∀a∈az,a.aq<n)→nextOf z az≤n
 | [],z,n,h,_=>h
 | a::t,z,n,_,h=>nextOf_le t (a.aq+1) n (by have:=h a (by simp);omega) (fun b hb=>h b (by simp[hb]))
theorem sgo_sfacts {S:Sto} (hG:StoGood S) (hr:SRoom S):sgo ⟨S.node,0,[],[]⟩ (sfacts S)=some S:=by
 unfold sfacts;have h1:=sgo_parts S.parts ⟨S.node,0,[],[]⟩ (S.acts.flatMap actF ++lastF S) hG.part (by simpa using hG.parts);simp only[List.length_nil,List.nil_append] at h1;rw[h1];have h2:=sgo_acts S.acts ⟨S.node,0,[],S.parts⟩ S.next (lastF S) hG.act (fun a ha=>(hG.act a ha).id.2.1) (by simpa using hG.sorted) (by simpa using hG.child) (by simpa using hG.acts) hG.parts
 simp only[List.nil_append] at h2;rw[h2];unfold lastF;by_cases h:0<S.next∧sfind S S.node (S.next - 1)=none
 · rw[if_pos h];have hno:=sfind_none h.2;have hnd:=hG.node;have hnx:=hG.next;have hlast:∀a∈S.acts,a.aq<S.next - 1:=fun a ha=>by
    have h3:=(hG.act a ha).id;have h4:=hno a ha;have:¬a.aq=S.next - 1:=fun e=>h4 ⟨h3.1,e⟩
    omega
   have hle:=nextOf_le S.acts 0 (S.next - 1) (by omega) hlast;have hid:idOk S.node (S.next - 1)=true:=(idOk_iff _ _).2 (by omega);rw[sgo_cons (T:=plus S ⟨S.node,S.next - 1,1,0,0,0,0,[]⟩ S.next) ?_ ?_]
   · rw[sgo_cons (T:=S) ?_ ?_]
     · rfl
     · unfold fok;simp[hid]
     · have hfi:=sfind_last (S:=S) (b:=⟨S.node,S.next - 1,1,0,0,0,0,[]⟩) (nx:=S.next) hlast;have hg:(plus S ⟨S.node,S.next - 1,1,0,0,0,0,[]⟩ S.next).acts[S.acts.length]? =some ⟨S.node,S.next - 1,1,0,0,0,0,[]⟩:=get_last _ _;unfold sput;rw[if_neg (show ¬(5:Int)=1 by decide),if_neg (show ¬(5:Int)=6 by decide),if_neg (show ¬((5:Int)=7∨(5:Int)=8) by decide)];dsimp only at hfi⊢;rw[hfi];simp only[hg]
       simp[plus]
   · have hctx:ctxOk S.node (S.next - 1) 1 0 0=true:=by
      unfold ctxOk;rw[hid];decide+kernel
     unfold fok;simp only[hctx];simp
   · unfold sput;rw[if_pos rfl,if_neg]
     · simp[plus]
     · rintro(e | e | e | ⟨e,_⟩)
       · exact e rfl
       · dsimp only at e;omega
       · have:=hr h.1 h.2;dsimp only at e;omega
       · dsimp only at e;omega
 · rw[if_neg h];have hnx:=hG.next;have hn:nextOf 0 S.acts=S.next:=by
    refine nextOf_last S.acts 0 S.next hG.sorted (fun a ha=>(hG.act a ha).id.2.2) (fun he=> ?_) (fun _=> ?_)
    · by_cases h0:0<S.next
      · exact absurd ⟨h0,by unfold sfind;rw[he];rfl⟩ h
      · omega
    · by_cases h0:0<S.next
      · cases hq:sfind S S.node (S.next - 1) with
        | none=>exact absurd ⟨h0,hq⟩ h
        | some i=>
         unfold sfind at hq;obtain⟨hi,h1,_⟩:=List.findIdx?_eq_some_iff_getElem.1 hq;simp at h1;exact⟨_,List.getElem_mem hi,h1.2⟩
      · rename_i hne
        obtain⟨a,ha⟩:=List.exists_mem_of_ne_nil _ hne;have:=(hG.act a ha).id;omega
   rw[hn];rfl
open Go.RowKit Go.Shelf
attribute [local go_sem] store_float
theorem factL_len (f:SFact):(factL f).length=14:=rfl
theorem factL_one (f:SFact):∀u∈factL f,u.oneCell'=true:=by
 intro u hu;simp only[factL,List.mem_cons,List.not_mem_nil,or_false] at hu;rcases hu with rfl | rfl | rfl | rfl | rfl | rfl | rfl | rfl | rfl | rfl | rfl | rfl | rfl | rfl<;>rfl
open Go.RowKit
theorem read_row {w:World} {B:Nat} {v:Value} {fs:List SFact} (h:w.ownsRow B 39 14 v fs.length (factsL fs)):ReadFacts w v fs∧∀k,sliceBlock v=some k→v.ownBlock=some k:=by
 obtain⟨a,cap,hv⟩:=row_slice h;subst hv;by_cases hn:fs=[]
 · subst hn;rcases h.2 with⟨hv,_⟩ | ⟨g,cap',cur,hv,_⟩
   · cases hv
     exact⟨⟨none,0,rfl,fun h=>absurd rfl h⟩,by simp[sliceBlock]⟩
   · simp only[Value.slice.injEq] at hv;obtain⟨rfl,_,rfl⟩:=hv;exact⟨⟨_,_,rfl,fun h=>absurd rfl h⟩,fun k hk=>by simpa[sliceBlock,Value.ownBlock] using hk⟩
 · obtain⟨g,cap',hv,_,_,hg,hc,_⟩:=row_form h (List.length_pos_iff.2 hn);simp only[Value.slice.injEq,true_and] at hv;obtain⟨rfl,rfl⟩:=hv;refine⟨⟨_,_,rfl,fun _=>⟨g,0,rfl,hg,fun j hj=> ?_⟩⟩,fun k hk=>by simpa[sliceBlock,Value.ownBlock] using hk⟩;have hat:=fun i hi=>flat_at factL 14 factL_len fs j i hj hi
   rw[Nat.zero_add]
   exact⟨hc _ _ (hat 0 (by decide)),hc _ _ (hat 1 (by decide)),hc _ _ (hat 2 (by decide)),hc _ _ (hat 3 (by decide)),hc _ _ (hat 4 (by decide)),hc _ _ (hat 5 (by decide)),hc _ _ (hat 6 (by decide)),hc _ _ (hat 7 (by decide)),hc _ _ (hat 8 (by decide)),hc _ _ (hat 9 (by decide)),hc _ _ (hat 10 (by decide)),hc _ _ (hat 11 (by decide)),hc _ _ (hat 12 (by decide)),hc _ _ (hat 13 (by decide))⟩
theorem built_start {w W : World} {node : Int} {x : Nat} (hb : Below w.heap.size w W) (hx : Blk W x #[node, .int .i64 0, .slice none 0 0, .slice none 0 0]) (hlx : w.heap.size ≤ x) (T : TypeId) :
    Built ⟨x,.slice none 0 0,.slice none 0 0,[]⟩ ⟨W.heap.size,.slice none 0 0,.slice none 0 0,[]⟩ ⟨node,0,[],[]⟩ w (W.alloc (.cells #[node,.int .i64 0,.slice none 0 0,.slice none 0 0] T)):=by
 have hxl:=hx.lt;have hbs:=hb.size;refine⟨⟨hx.alloc _,World.ownsRow_nil _ _ _ _,World.ownsRow_nil _ _ _ _,fun i y a h=>by simp at h,by simp[SLoc.foot,Value.ownBlock,blocks]⟩,⟨Blk.fresh W _ T _ rfl,World.ownsRow_nil _ _ _ _,World.ownsRow_nil _ _ _ _,rfl,fun i y a h=>by simp at h,by simp[RLoc.foot,Value.ownBlock,rblocks]⟩,fun k hk hr=> ?_,fun k hk=> ?_,fun k hk=> ?_,hb.alloc hbs _⟩
 · simp[SLoc.foot,Value.ownBlock,blocks] at hk;simp[RLoc.foot,Value.ownBlock,rblocks] at hr;omega
 · simp[SLoc.foot,Value.ownBlock,blocks] at hk;omega
 · simp[RLoc.foot,Value.ownBlock,rblocks] at hk;omega
section
variable {P:Program} {ops:Array Oper} {Q:Exit→Act→World→Prop} {md:Region.Mode} {S:World→Prop}
end
theorem hp_new {w:World} {C:Array Value} {T:TypeId} (n:Nat) (hn:n=w.heap.size):(w.alloc (.cells C T)).heap[n]? =some (.cells C T (0,0)):=by subst hn;exact heap_alloc_new _ _
theorem Blk.gr {w w':World} {b g:Nat} {C:Array Value} (h:Blk w b C) (hg:w.grownBy w' (some g)) (hne:g≠b):Blk w' b C:=h.same hg.size (hg.block _ h.lt (fun e=>hne (by injection e with e;exact e.symm)))
theorem room_put {S T:Sto} {f:SFact} (hG:StoGood S) (hr:SRoom S) (hf:fok f=true) (h:sput S f=some T):SRoom T:=by
 have hT:=sput_good hG hf h;unfold sput at h;by_cases k1:f.k=1
 · rw[if_pos k1] at h;split at h
   · cases h
   · rename_i hc
     injection h with h
     subst h;intro _ hno;exfalso;refine sfind_none hno ⟨f.an,f.aq,f.oc,f.dp,f.ex,f.pa,0,[]⟩ (by simp) ⟨?_,?_⟩
     · have:=not_or.1 hc;exact Decidable.byContradiction this.1
     · show f.aq=f.aq+1 - 1
       omega
 rw[if_neg k1] at h;by_cases k6:f.k=6
 · rw[if_pos k6] at h;split at h
   · cases h
   · injection h with h
     subst h;exact hr
 rw[if_neg k6] at h;by_cases k7:f.k=7∨f.k=8
 · rw[if_pos k7] at h;split at h
   · cases h
   · split at h
     · obtain⟨t,_,rfl⟩:=Option.map_eq_some_iff.1 h;exact hr
     · split at h
       · cases h
       · injection h with h
         subst h;exact hr
 rw[if_neg k7] at h;split at h
 · cases h
 · rename_i i hi
   split at h
   · cases h
   · rename_i a ha
     obtain⟨hil,hie⟩:=List.getElem?_eq_some_iff.1 ha;have h8:=hG.acts;split at h
     · split at h
       · cases h
       · injection h with h
         subst h;intro _ _;simp only[List.length_append,List.length_take,List.length_drop];omega
     · rename_i k5
       obtain⟨b,hb,rfl⟩:=Option.map_eq_some_iff.1 h;have hk:f.k=2∨f.k=3∨f.k=4:=by have:=fok_any hf;omega
       have hA:=hG.act a (List.mem_of_getElem? ha);obtain⟨hB,haq,_⟩:=sact_some hA hf hk hb;intro h0 hno;have hlen:(S.acts.set i b).length=S.acts.length:=List.length_set;show(S.acts.set i b).length<8
       rw[hlen];refine hr h0 ?_;have hn:=sfind_none hno;unfold sfind;rw[List.findIdx?_eq_none_iff];intro c hc;obtain⟨j,hj,rfl⟩:=List.getElem_of_mem hc;by_cases hji:j=i
       · subst hji;have:=hn b (by rw[List.mem_iff_getElem];exact⟨j,by rw[hlen];exact hj,by simp⟩);rw[hie];have e1:=hA.id.1;have e2:=hB.id.1;simp only[decide_eq_false_iff_not];rintro⟨e3,e4⟩;exact this ⟨by rw[e2],by rw[haq];exact e4⟩
       · have:=hn S.acts[j] (by rw[List.mem_iff_getElem];exact⟨j,by rw[hlen];exact hj,by rw[List.getElem_set_ne (by omega)]⟩);simpa using this
theorem room_apply {S:Sto} {f:SFact} (hG:StoGood S) (hr:SRoom S):SRoom (sapply S f).1:=by
 unfold sapply;split
 · exact hr
 · rename_i hf
   split
   · exact hr
   · rename_i T hT
     exact room_put hG hr (by simpa using hf) hT
theorem room_new (n:Int):SRoom ⟨n,0,[],[]⟩:=fun h _=>absurd h (by simp)
def lowB:Nat→Nat→List Nat
 | 0,_=>[]
 | k+1,n=>if n=0 then[] else(n % 256)::lowB k (n / 256)
def numB (n:Nat):List Nat:=(lowB 8 n).reverse
theorem lowB_byte:∀(k n:Nat),∀c∈lowB k n,c<256
 | 0,n,c,h=>by cases h
 | k+1,n,c,h=>by
  unfold lowB at h;split at h
  · cases h
  · rcases List.mem_cons.1 h with rfl | h
    · exact Nat.mod_lt _ (by decide)
    · exact lowB_byte k _ c h
theorem lowB_len:∀(k n:Nat),(lowB k n).length≤k
 | 0,_=>Nat.le_refl _
 | k+1,n=>by
  unfold lowB;split
  · simp
  · have:=lowB_len k (n / 256);simp only[List.length_cons];omega
theorem lowB_bval:∀(k n:Nat),n<256 ^ k→bval (lowB k n).reverse=n
 | 0,n,h=>by simp at h;subst h;rfl
 | k+1,n,h=>by
  unfold lowB;split
  · rename_i h0;subst h0;rfl
  · rw[List.reverse_cons,bval_snoc,lowB_bval k (n / 256) (by rw[Nat.pow_succ] at h;omega)];omega
theorem lowB_head:∀(k n:Nat),n<256 ^ k→n≠0→(lowB k n).reverse≠[]∧(lowB k n).reverse.head? ≠some 0
 | 0,n,h,h0=>by simp at h;exact absurd h h0
 | k+1,n,h,h0=>by
  unfold lowB;rw[if_neg h0,List.reverse_cons];refine⟨by simp,?_⟩;by_cases hd:n / 256=0
  · rw[hd];have e:lowB k 0=[]:=by cases k<;>simp[lowB]
    rw[e];simp;omega
  · obtain⟨h1,h2⟩:=lowB_head k (n / 256) (by rw[Nat.pow_succ] at h;omega) hd
    cases hq:(lowB k (n / 256)).reverse with
    | nil=>exact absurd hq h1
    | cons x y=>rw[hq] at h2;exact h2
theorem numF_numB {n:Nat} (h0:n≠0) (h:n<9223372036854775808):numF (numB n)=some n∧numB n≠[]∧(numB n).length≤8∧∀c∈numB n,c<256:=by
 have h8:n<256 ^ 8:=by have e:(256:Nat) ^ 8=18446744073709551616:=(by decide);omega
 have hb:∀c∈numB n,c<256:=fun c hc=>lowB_byte 8 n c (List.mem_reverse.1 hc)
 have hl:(numB n).length≤8:=by unfold numB;rw[List.length_reverse];exact lowB_len 8 n
 obtain⟨h1,h2⟩:=lowB_head 8 n h8 h0;have hv:bval (numB n)=n:=lowB_bval 8 n h8;refine⟨?_,h1,hl,hb⟩;rw[numF_big hb hl h2,hv,if_pos (by omega)]
def lowE:Nat→Nat→List Nat
 | 0,_=>[]
 | k+1,n=>(n % 256)::lowE k (n / 256)
def fltB (x:Nat):List Nat:=(lowE 8 (fplain x)).reverse
theorem lowE_byte:∀(k n:Nat),∀c∈lowE k n,c<256
 | 0,n,c,h=>by cases h
 | k+1,n,c,h=>by
  unfold lowE at h;rcases List.mem_cons.1 h with rfl | h
  · exact Nat.mod_lt _ (by decide)
  · exact lowE_byte k _ c h
theorem lowE_len:∀(k n:Nat),(lowE k n).length=k
 | 0,_=>rfl
 | k+1,n=>by unfold lowE;rw[List.length_cons,lowE_len]
theorem lowE_bval:∀(k n:Nat),n<256 ^ k→bval (lowE k n).reverse=n
 | 0,n,h=>by simp at h;subst h;rfl
 | k+1,n,h=>by
  unfold lowE;rw[List.reverse_cons,bval_snoc,lowE_bval k (n / 256) (by rw[Nat.pow_succ] at h;omega)];omega
theorem fltF_fltB {x:Nat} (h:F64 x):fltF (fltB x)=some (fplain x)∧(fltB x).length=8∧∀c∈fltB x,c<256:=by
 have hp:=fplain_F64 h;have hl:(fltB x).length=8:=by unfold fltB;rw[List.length_reverse,lowE_len]
 have hv:bval (fltB x)=fplain x:=lowE_bval 8 _ (by have e:(256:Nat) ^ 8=18446744073709551616:=(by decide);unfold F64 at hp;omega);refine⟨?_,hl,fun c hc=>lowE_byte 8 _ c (List.mem_reverse.1 hc)⟩;unfold fltF;rw[if_neg (by omega),hv,fplain_twice,if_pos rfl]
def joinB (xs:List Fld):List Nat:=xs.flatMap fun x=>x.t::(x.d.length / 256)::(x.d.length % 256)::x.d
def RowOk:Nat→List Fld→Prop
 | _,[]=>True
 | last,x::t=>last<x.t∧x.d.length≤200∧RowOk x.t t
theorem split_join:∀(xs:List Fld) (f last cnt:Nat),RowOk last xs→cnt+xs.length≤16→(joinB xs).length≤f→splitE f (joinB xs) last cnt=.ok xs
 | [],f,last,cnt,_,_,_=>by cases f<;>simp[joinB,splitE]
 | x::t,f,last,cnt,hr,hc,hf=>by
  obtain⟨h1,h2,h3⟩:=hr;have hj:joinB (x::t)=x.t::(x.d.length / 256)::(x.d.length % 256)::(x.d ++joinB t):=by simp[joinB]
  have hc':cnt+(t.length+1)≤16:=by simpa using hc
  rw[hj] at hf⊢
  match f,hf with
  | f+1,hf=>
   have hm:x.d.length / 256*256+x.d.length % 256=x.d.length:=Nat.div_add_mod' _ _;have hfe:fldE (x.t::(x.d.length / 256)::(x.d.length % 256)::(x.d ++joinB t)) last cnt=.ok (x,joinB t):=by
    rw[fldE_three,hm,if_neg (by omega),if_neg (by simp)];simp
   unfold splitE;rw[if_neg (by simp),hfe];simp only;rw[split_join t f x.t (cnt+1) h3 (by omega) (by simp at hf;omega)]
shelf_lay_g SlLaysE.n35 Slgn 35 at Tryz 266 as shRev
theorem rev_of (B : Nat) (v : Value) (n : Nat) (l : List Nat) (w0 w : World) (h : w.ownsRow B 5 1 v n (bytesL l)) (hl : n ≤ 1000) (hb : Below w0.heap.size w0 w) (hB : w0.heap.size ≤ B) :
    Calls Tryz.prog 266 #[v] w (fun e w'=>e=.returned (.tuple #[])∧w'.ownsRow B 5 1 v n (bytesL l.reverse)∧Below w0.heap.size w0 w'):=by
 by_cases hv:v=.slice none 0 0
 · subst hv;have hn:n=0∧l=[]:=by
    obtain⟨a,cap,hv⟩:=row_slice h;injection hv with _ hv _
    have:=h.1;unfold bytesL at this;rw[List.length_map] at this;exact⟨hv.symm,List.length_eq_zero_iff.1 (by omega)⟩
   obtain⟨rfl,rfl⟩:=hn;refine(AnyE.slices_Reverse_empty shRev none 0 w).mono ?_;rintro e w' ⟨rfl,rfl⟩;exact⟨rfl,h,hb⟩
 · obtain⟨g,cap,rfl,hg,hgl,hnc,hcm,hlen,hH⟩:=Lib.holds_of_ownsRow (enc:=byteL) h hv;subst hlen;refine(AnyE.slices_Reverse shRev byteL (fun x=>rfl) g 0 cap l w hH (by omega)).mono ?_;rintro e w' ⟨rfl,q,rfl⟩;refine⟨rfl,?_,Lib.below_putRow hb (by omega)⟩;have:=Lib.ownsRow_putRow (q:=q) (ys:=l.reverse) (k:=l.length) h (by simp) (Nat.le_refl _);rwa[List.take_of_length_le (by simp)] at this
theorem lowB_step {k m:Nat} (h:m≠0):lowB (k+1) m=(m % 256)::lowB k (m / 256):=by
 conv=>lhs;unfold lowB
 rw[if_neg h]
theorem lowB_zero (k:Nat):lowB k 0=[]:=by cases k<;>simp[lowB]
theorem number_of (n:Nat) (hn:n<9223372036854775808) (w:World):Calls Tryz.prog 214 #[.int .i64 (n:Int)] w (fun e w'=>∃v,e=.returned (.tuple #[v,.nilIface])∧w'.ownsRow w.heap.size 5 1 v (numB n).length (bytesL (numB n))∧Below w.heap.size w w'):=by
 obtain⟨j0,fi,fz,fs,fb⟩:=info_parts infoByte;have h0:¬(n:Int)<0:=by omega
 have hL:Hid (lowB 8 n=[] ++lowB 8 n):=qq rfl;have hlb:∀k m,(lowB k m).length≤k:=lowB_len;have HLB:=qq hlb;have h8:n<256 ^ 8:=by have e:(256:Nat) ^ 8=18446744073709551616:=(by decide);omega
 have H8:=qq h8;clear hlb h8;go_enter Tryz.func214,Tryz.ntmps214;go_wp2_with fail;go_loopw [0,4] (fun cc u wr=>∃(m k:Nat) (pre:List Nat),cc=.int .i64 (m:Int)∧m≤n∧pre.length+k=8∧Hid (m<256 ^ k)∧Hid (lowB 8 n=pre ++lowB k m)∧Hid (wr.ownsRow w.heap.size 5 1 u pre.length (bytesL pre))∧Hid (Below w.heap.size w wr)) (fun cc _ _=>(intOf cc).toNat)
 case atStart=>exact⟨n,8,[],by first | rfl | go_num,Nat.le_refl _,rfl,H8,hL,qq (World.ownsRow_nil _ _ _ _),qq (Below.refl _ _)⟩
 case round=>
  obtain⟨m,k,pre,rfl,hmn,hpk,HM,HL,HO,HB⟩:=hrel;obtain⟨ua,uc,hu⟩:=row_slice HO.out;subst hu;obtain⟨np,hnp⟩:∃x,x=pre.length:=⟨_,rfl⟩
  have HNP:=qq hnp;rw[←hnp] at HO hpk⊢;have hwr:=HB.out.size;clear hnp;by_cases hm:m=0
  · subst hm;have hfin:lowB 8 n=pre:=by rw[HL.out,lowB_zero,List.append_nil]
    have HFIN:=qq hfin;have HREV:=qq (fun W hb h=>rev_of w.heap.size (.slice ua np uc) np pre w W h (by omega) hb (Nat.le_refl _));clear hfin;go_wp2_with fail;refine(HREV.out _ HB.out HO.out).mono ?_;rintro e w3 ⟨rfl,hown,hb3⟩;have HOW:=qq hown;have HB3:=qq hb3;clear hown hb3;go_wp2_with fail;go_ret2;refine⟨_,rfl,?_,HB3.out⟩;have e1:numB n=pre.reverse:=by unfold numB;rw[HFIN.out]
    rw[e1,List.length_reverse,←HNP.out];exact HOW.out
  · have hm0:(0:Int)<(m:Int):=by omega
    obtain⟨k1,rfl⟩:∃k1,k=k1+1:=by
     cases k with
     | zero=>have:=HM.out;simp at this;omega
     | succ k1=>exact⟨k1,rfl⟩
    have HST:Hid (lowB 8 n=(pre ++ [m % 256]) ++lowB k1 (m / 256)):=qq (by rw[HL.out,lowB_step hm,List.append_assoc];rfl);have HMD:Hid (m / 256<256 ^ k1):=qq (by have:=HM.out;rw[Nat.pow_succ] at this;omega);have hal:=(Below.refl wr.heap.size wr).alloc (Nat.le_refl _) (.cells #[.int .u8 ((m:Int) % 256)] 5);have hrow:=row_be HO.out hal;have HBA:=qq (below_then HB.out hal)
    have hza:w.heap.size≤(wr.alloc (.cells #[.int .u8 ((m:Int) % 256)] 5)).heap.size:=by simp;omega
    have HUB:=qq (fun k hk=>(HO.out.lt k hk).1);clear hm hal;go_wp2_with (at_builtin;refine wpList_append_own_at _ rfl _ _ 65 rfl w.heap.size 5 j0 (.int .u8 0) 1 1 Tryz.underlying65 fi fz fs fb rfl (by decide) _ _ _ rfl hrow ⟨wr.heap.size,0,none⟩ 1 1 [.int .u8 ((m:Int) % 256)] (by rfl) rfl (lit_cells (Blk.fresh _ _ _ _ rfl)) (fun u hu=>by obtain rfl:=List.mem_singleton.1 hu;rfl) ?d3 ?d4 ?d5 ?_)
    case d3=>unfold maxLen;omega
    case d4=>omega
    case d5=>exact hza
    intro v2 w6 hown hgrow _ _;have hO6:w6.ownsRow w.heap.size 5 1 v2 (pre ++ [m % 256]).length (bytesL (pre ++ [m % 256])):=by
     have e:bytesL (pre ++ [m % 256])=bytesL pre ++ [.int .u8 ((m:Int) % 256)]:=by unfold bytesL;rw[List.map_append];rfl
     rw[e,List.length_append,←HNP.out];exact hown
    have HO6:=qq hO6;have HB6:=qq (HBA.out.grown hgrow HBA.out.size (fun j hj=>HUB.out j hj));obtain⟨m',hm'⟩:∃x,x=m / 256:=⟨_,rfl⟩
    have hshr:(m:Int) / 256=(m':Int):=by omega
    have HM':=qq hm';have hlt:m'<m:=by omega
    clear hown hgrow hO6 hrow hza hm';go_wp2_with fail;go_roundw
    case rel=>exact⟨m',k1,pre ++ [m % 256],by first | rfl | go_num,by omega,by rw[List.length_append,←HNP.out];simp;omega,qq (by rw[HM'.out];exact HMD.out),qq (by rw[HM'.out];exact HST.out),HO6,HB6⟩
    case measure=>simp[intOf];omega
def arrE (q:Nat):Nat→Array Value
 | 0=> #[.int .u8 0,.int .u8 0,.int .u8 0,.int .u8 0,.int .u8 0,.int .u8 0,.int .u8 0,.int .u8 0]
 | 1=> #[.int .u8 0,.int .u8 0,.int .u8 0,.int .u8 0,.int .u8 0,.int .u8 0,.int .u8 0,.int .u8 ((q:Int) % 256)]
 | 2=> #[.int .u8 0,.int .u8 0,.int .u8 0,.int .u8 0,.int .u8 0,.int .u8 0,.int .u8 ((q:Int) / 256 % 256),.int .u8 ((q:Int) % 256)]
 | 3=> #[.int .u8 0,.int .u8 0,.int .u8 0,.int .u8 0,.int .u8 0,.int .u8 ((q:Int) / 65536 % 256),.int .u8 ((q:Int) / 256 % 256),.int .u8 ((q:Int) % 256)]
 | 4=> #[.int .u8 0,.int .u8 0,.int .u8 0,.int .u8 0,.int .u8 ((q:Int) / 16777216 % 256),.int .u8 ((q:Int) / 65536 % 256),.int .u8 ((q:Int) / 256 % 256),.int .u8 ((q:Int) % 256)]
 | 5=> #[.int .u8 0,.int .u8 0,.int .u8 0,.int .u8 ((q:Int) / 4294967296 % 256),.int .u8 ((q:Int) / 16777216 % 256),.int .u8 ((q:Int) / 65536 % 256),.int .u8 ((q:Int) / 256 % 256),.int .u8 ((q:Int) % 256)]
 | 6=> #[.int .u8 0,.int .u8 0,.int .u8 ((q:Int) / 1099511627776 % 256),.int .u8 ((q:Int) / 4294967296 % 256),.int .u8 ((q:Int) / 16777216 % 256),.int .u8 ((q:Int) / 65536 % 256),.int .u8 ((q:Int) / 256 % 256),.int .u8 ((q:Int) % 256)]
 | 7=> #[.int .u8 0,.int .u8 ((q:Int) / 281474976710656 % 256),.int .u8 ((q:Int) / 1099511627776 % 256),.int .u8 ((q:Int) / 4294967296 % 256),.int .u8 ((q:Int) / 16777216 % 256),.int .u8 ((q:Int) / 65536 % 256),.int .u8 ((q:Int) / 256 % 256),.int .u8 ((q:Int) % 256)]
 | _=> #[.int .u8 ((q:Int) / 72057594037927936 % 256),.int .u8 ((q:Int) / 281474976710656 % 256),.int .u8 ((q:Int) / 1099511627776 % 256),.int .u8 ((q:Int) / 4294967296 % 256),.int .u8 ((q:Int) / 16777216 % 256),.int .u8 ((q:Int) / 65536 % 256),.int .u8 ((q:Int) / 256 % 256),.int .u8 ((q:Int) % 256)]
theorem blk_hp {w:World} {b:Nat} {C:Array Value} {T:TypeId} (h:w.heap[b]? =some (.cells C T (0,0))):Blk w b C:=⟨(Array.getElem?_eq_some_iff.1 h).1,fun i=>by simp[World.cell?,h],fun i=>by simp[World.frozen?,h]⟩
theorem arrE_all (q j c:Nat) (hj:((lowE 8 q).reverse)[j]? =some c):(arrE q 8)[j]? =some (.int .u8 (c:Int)):=by
 have hl:(lowE 8 q).reverse=[q / 256 / 256 / 256 / 256 / 256 / 256 / 256 % 256,q / 256 / 256 / 256 / 256 / 256 / 256 % 256,q / 256 / 256 / 256 / 256 / 256 % 256,q / 256 / 256 / 256 / 256 % 256,q / 256 / 256 / 256 % 256,q / 256 / 256 % 256,q / 256 % 256,q % 256]:=rfl;rw[hl] at hj;simp only[Nat.div_div_eq_div_mul] at hj;unfold arrE
 match j,hj with
 | 0,hj=>simp at hj⊢;omega
 | 1,hj=>simp at hj⊢;omega
 | 2,hj=>simp at hj⊢;omega
 | 3,hj=>simp at hj⊢;omega
 | 4,hj=>simp at hj⊢;omega
 | 5,hj=>simp at hj⊢;omega
 | 6,hj=>simp at hj⊢;omega
 | 7,hj=>simp at hj⊢;omega
 | n+8,hj=>simp at hj
theorem floatB_of (x:Nat) (hx:F64 x) (w:World):Calls Tryz.prog 215 #[flV x] w (fun e w'=>e=.returned (.slice (some ⟨w.heap.size,0,none⟩) 8 8)∧w'.ownsRow w.heap.size 5 1 (.slice (some ⟨w.heap.size,0,none⟩) 8 8) 8 (bytesL (fltB x))∧Below w.heap.size w w'):=by
 have HBT:=qq (fun W=>bits_of x hx W);have hfb:fltB x=(lowE 8 (fplain x)).reverse:=rfl;have hq:=fplain_F64 hx;rw[hfb];generalize fplain x=q at*;have hmk:∀w:World,(Instr.makeSlice 65 (.int .i64 8) (.int .i64 8)).run Tryz.prog w=.ok (.slice (some ⟨w.heap.size,0,none⟩) 8 8) (w.alloc (.cells (arrE q 0) 5)):=fun w=>by kernel_rfl
 have hq0:(0:Int)≤(q:Int):=by omega
 have HEND:Hid (bytesL (lowE 8 q).reverse=(arrE q 8).toList):=qq (by
   have h1:∀j c,((lowE 8 q).reverse)[j]? =some c→(arrE q 8).toList[j]? =some (byteL c):=fun j c h=>by rw[Array.getElem?_toList];exact arrE_all q j c h
   refine List.ext_getElem? (fun j=> ?_);unfold bytesL;rw[List.getElem?_map]
   cases hc:((lowE 8 q).reverse)[j]? with
   | some c=>rw[h1 j c hc];rfl
   | none=>
     have hl:((lowE 8 q).reverse).length=8:=rfl;have:8≤j:=by have:=List.getElem?_eq_none_iff.1 hc;omega
     rw[List.getElem?_eq_none (show(arrE q 8).toList.length≤j from this)];rfl)
 clear hx hfb hq;go_enter Tryz.func215,Tryz.ntmps215;go_wp2_with fail;refine(HBT.out _).mono ?_;rintro e w1 ⟨rfl,rfl⟩;go_wp2_with fail;go_loopw [11] (fun cc wr=>∃i:Nat,i≤8∧cc=.int .i64 (i:Int)∧Hid (wr.heap[w.heap.size]? =some (.cells (arrE q i) 5 (0,0)))∧Hid (Below w.heap.size w wr)) (fun cc _=>8 - (intOf cc).toNat)
 case atStart=>exact⟨0,by omega,by first | rfl | go_num,qq (hp_new _ rfl),qq (by go_grown)⟩
 case round=>
  obtain⟨i,hi,rfl,HK,HB⟩:=hrel
  match i,hi,HK with
  | 8,_,HK=>
   go_wp2_with fail;go_ret;exact⟨rfl,⟨by rw[HEND.out];rfl,.inr ⟨w.heap.size,8,arrE q 8,rfl,Nat.le_refl _,HK.out,Nat.le_refl _,by unfold maxLen;omega,rfl,by rw[HEND.out];rfl⟩⟩,HB.out⟩
  | n+9,h,_=>omega
  | 0,_,HK=>
   obtain⟨l,qc,fc⟩:=blk_hp HK.out;have hold:wr.cell? ⟨w.heap.size,7,none⟩=some (.int .u8 0):=qc 7;have hf7:=fc 7;have HK2:Hid ((wr.setCell ⟨w.heap.size,7,none⟩ (.int .u8 ((q:Int) % 256))).heap[w.heap.size]? =some (.cells (arrE q 1) 5 (0,0))):=qq (by have h:=heap_setCell_same wr w.heap.size 7 _ _ (.int .u8 ((q:Int) % 256)) HK.out;simpa[arrE] using h)
   have HB2:=qq (bel_set HB.out (p:=⟨w.heap.size,7,none⟩) (Nat.le_refl _) (.int .u8 ((q:Int) % 256)));clear qc fc;go_wp2_with fail;go_roundw
   case rel=>exact⟨1,by omega,by first | rfl | go_num,HK2,HB2⟩
   case measure=>simp[intOf]
  | 1,_,HK=>
   obtain⟨l,qc,fc⟩:=blk_hp HK.out;have hold:wr.cell? ⟨w.heap.size,6,none⟩=some (.int .u8 0):=qc 6;have hf7:=fc 6;have HK2:Hid ((wr.setCell ⟨w.heap.size,6,none⟩ (.int .u8 ((q:Int) / 256 % 256))).heap[w.heap.size]? =some (.cells (arrE q 2) 5 (0,0))):=qq (by have h:=heap_setCell_same wr w.heap.size 6 _ _ (.int .u8 ((q:Int) / 256 % 256)) HK.out;simpa[arrE] using h)
   have HB2:=qq (bel_set HB.out (p:=⟨w.heap.size,6,none⟩) (Nat.le_refl _) (.int .u8 ((q:Int) / 256 % 256)));clear qc fc;go_wp2_with fail;go_roundw
   case rel=>exact⟨2,by omega,by first | rfl | go_num,HK2,HB2⟩
   case measure=>simp[intOf]
  | 2,_,HK=>
   obtain⟨l,qc,fc⟩:=blk_hp HK.out;have hold:wr.cell? ⟨w.heap.size,5,none⟩=some (.int .u8 0):=qc 5;have hf7:=fc 5;have HK2:Hid ((wr.setCell ⟨w.heap.size,5,none⟩ (.int .u8 ((q:Int) / 65536 % 256))).heap[w.heap.size]? =some (.cells (arrE q 3) 5 (0,0))):=qq (by have h:=heap_setCell_same wr w.heap.size 5 _ _ (.int .u8 ((q:Int) / 65536 % 256)) HK.out;simpa[arrE] using h)
   have HB2:=qq (bel_set HB.out (p:=⟨w.heap.size,5,none⟩) (Nat.le_refl _) (.int .u8 ((q:Int) / 65536 % 256)));clear qc fc;go_wp2_with fail;go_roundw
   case rel=>exact⟨3,by omega,by first | rfl | go_num,HK2,HB2⟩
   case measure=>simp[intOf]
  | 3,_,HK=>
   obtain⟨l,qc,fc⟩:=blk_hp HK.out;have hold:wr.cell? ⟨w.heap.size,4,none⟩=some (.int .u8 0):=qc 4;have hf7:=fc 4;have HK2:Hid ((wr.setCell ⟨w.heap.size,4,none⟩ (.int .u8 ((q:Int) / 16777216 % 256))).heap[w.heap.size]? =some (.cells (arrE q 4) 5 (0,0))):=qq (by have h:=heap_setCell_same wr w.heap.size 4 _ _ (.int .u8 ((q:Int) / 16777216 % 256)) HK.out;simpa[arrE] using h)
   have HB2:=qq (bel_set HB.out (p:=⟨w.heap.size,4,none⟩) (Nat.le_refl _) (.int .u8 ((q:Int) / 16777216 % 256)));clear qc fc;go_wp2_with fail;go_roundw
   case rel=>exact⟨4,by omega,by first | rfl | go_num,HK2,HB2⟩
   case measure=>simp[intOf]
  | 4,_,HK=>
   obtain⟨l,qc,fc⟩:=blk_hp HK.out;have hold:wr.cell? ⟨w.heap.size,3,none⟩=some (.int .u8 0):=qc 3;have hf7:=fc 3;have HK2:Hid ((wr.setCell ⟨w.heap.size,3,none⟩ (.int .u8 ((q:Int) / 4294967296 % 256))).heap[w.heap.size]? =some (.cells (arrE q 5) 5 (0,0))):=qq (by have h:=heap_setCell_same wr w.heap.size 3 _ _ (.int .u8 ((q:Int) / 4294967296 % 256)) HK.out;simpa[arrE] using h)
   have HB2:=qq (bel_set HB.out (p:=⟨w.heap.size,3,none⟩) (Nat.le_refl _) (.int .u8 ((q:Int) / 4294967296 % 256)));clear qc fc;go_wp2_with fail;go_roundw
   case rel=>exact⟨5,by omega,by first | rfl | go_num,HK2,HB2⟩
   case measure=>simp[intOf]
  | 5,_,HK=>
   obtain⟨l,qc,fc⟩:=blk_hp HK.out;have hold:wr.cell? ⟨w.heap.size,2,none⟩=some (.int .u8 0):=qc 2;have hf7:=fc 2;have HK2:Hid ((wr.setCell ⟨w.heap.size,2,none⟩ (.int .u8 ((q:Int) / 1099511627776 % 256))).heap[w.heap.size]? =some (.cells (arrE q 6) 5 (0,0))):=qq (by have h:=heap_setCell_same wr w.heap.size 2 _ _ (.int .u8 ((q:Int) / 1099511627776 % 256)) HK.out;simpa[arrE] using h)
   have HB2:=qq (bel_set HB.out (p:=⟨w.heap.size,2,none⟩) (Nat.le_refl _) (.int .u8 ((q:Int) / 1099511627776 % 256)));clear qc fc;go_wp2_with fail;go_roundw
   case rel=>exact⟨6,by omega,by first | rfl | go_num,HK2,HB2⟩
   case measure=>simp[intOf]
  | 6,_,HK=>
   obtain⟨l,qc,fc⟩:=blk_hp HK.out;have hold:wr.cell? ⟨w.heap.size,1,none⟩=some (.int .u8 0):=qc 1;have hf7:=fc 1;have HK2:Hid ((wr.setCell ⟨w.heap.size,1,none⟩ (.int .u8 ((q:Int) / 281474976710656 % 256))).heap[w.heap.size]? =some (.cells (arrE q 7) 5 (0,0))):=qq (by have h:=heap_setCell_same wr w.heap.size 1 _ _ (.int .u8 ((q:Int) / 281474976710656 % 256)) HK.out;simpa[arrE] using h)
   have HB2:=qq (bel_set HB.out (p:=⟨w.heap.size,1,none⟩) (Nat.le_refl _) (.int .u8 ((q:Int) / 281474976710656 % 256)));clear qc fc;go_wp2_with fail;go_roundw
   case rel=>exact⟨7,by omega,by first | rfl | go_num,HK2,HB2⟩
   case measure=>simp[intOf]
  | 7,_,HK=>
   obtain⟨l,qc,fc⟩:=blk_hp HK.out;have hold:wr.cell? ⟨w.heap.size,0,none⟩=some (.int .u8 0):=qc 0;have hf7:=fc 0;have HK2:Hid ((wr.setCell ⟨w.heap.size,0,none⟩ (.int .u8 ((q:Int) / 72057594037927936 % 256))).heap[w.heap.size]? =some (.cells (arrE q 8) 5 (0,0))):=qq (by have h:=heap_setCell_same wr w.heap.size 0 _ _ (.int .u8 ((q:Int) / 72057594037927936 % 256)) HK.out;simpa[arrE] using h)
   have HB2:=qq (bel_set HB.out (p:=⟨w.heap.size,0,none⟩) (Nat.le_refl _) (.int .u8 ((q:Int) / 72057594037927936 % 256)));clear qc fc;go_wp2_with fail;go_roundw
   case rel=>exact⟨8,by omega,by first | rfl | go_num,HK2,HB2⟩
   case measure=>simp[intOf]
theorem joinB_append (xs ys:List Fld):joinB (xs ++ys)=joinB xs ++joinB ys:=by unfold joinB;rw[List.flatMap_append]
theorem joinB_len:∀(xs:List Fld),(∀x∈xs,x.d.length≤200)→(joinB xs).length≤203*xs.length
 | [],_=>by simp[joinB]
 | x::t,h=>by
  have h1:=joinB_len t (fun y hy=>h y (by simp[hy]));have h2:=h x (by simp);have e:(joinB (x::t)).length=(x.d.length+3)+(joinB t).length:=by simp[joinB];omega
  simp only[List.length_cons];omega
theorem rowOk_all:∀(xs:List Fld) (last:Nat),RowOk last xs→∀x∈xs,x.d.length≤200
 | [],_,_,x,h=>by cases h
 | y::t,last,h,x,hx=>by
  obtain⟨h1,h2,h3⟩:=h;rcases List.mem_cons.1 hx with rfl | hx
  · exact h2
  · exact rowOk_all t _ h3 x hx
theorem fjoin_of (a : Option Addr) (cap N : Nat) (xs : List Fld) (w : World) (hN : N = xs.length) (hF : ReadFlds w (.slice a N cap) xs) (hR : RowOk 0 xs) (ht : ∀ x ∈ xs, x.t ≤ 255 ∧ x.d ≠ [] ∧ ∀ c ∈ x.d, c < 256) (hl : N ≤ 16) :
    Calls Tryz.prog 216 #[.slice a N cap] w (fun e w'=>∃v,e=.returned (.tuple #[v,.nilIface])∧w'.ownsRow w.heap.size 5 1 v (joinB xs).length (bytesL (joinB xs))∧Below w.heap.size w w'):=by
 obtain⟨j0,fi,fz,fs,fb⟩:=info_parts infoByte;obtain⟨a2,cap2,hv,hr⟩:=hF;simp only[Value.slice.injEq] at hv;obtain⟨rfl,-,rfl⟩:=hv;have HRF:=qq hr;have HNN:=qq hN;have HT:=qq ht;have HR0:=qq hR;have HD:=qq (rowOk_all _ _ hR);clear hr hN ht hR;go_enter Tryz.func216,Tryz.ntmps216;go_wp2_with fail
 go_loopw [4,5,14] (fun u la cc wr=>∃(i last:Nat),i≤N∧cc=.int .i64 (i:Int)∧la=.int .i64 (last:Int)∧Hid (RowOk last (xs.drop i))∧Hid (wr.ownsRow w.heap.size 5 1 u (joinB (xs.take i)).length (bytesL (joinB (xs.take i))))∧Hid (Below w.heap.size w wr)) (fun _ _ cc _=>N - (intOf cc).toNat)
 case atStart=>exact⟨0,0,by omega,by first | rfl | go_num,by first | rfl | go_num,HR0,qq (World.ownsRow_nil _ _ _ _),qq (Below.refl _ _)⟩
 case round=>
  obtain⟨i,last,hi,rfl,rfl,HR,HO,HB⟩:=hrel;obtain⟨ua,uc,hu⟩:=row_slice HO.out;subst hu;have hi0:(0:Int)≤(i:Int):=by omega
  obtain⟨nu,hnu⟩:∃x,x=(joinB (xs.take i)).length:=⟨_,rfl⟩
  have HNU:=qq hnu;have hnu2:nu≤203*16:=by
   have h1:=joinB_len (xs.take i) (fun x hx=>HD.out x (List.mem_of_mem_take hx));rw[List.length_take] at h1;omega
  rw[←hnu] at HO⊢;clear hnu;by_cases hlt:i<N
  · have hi1:(i:Int)<(N:Int):=by omega
    obtain⟨x,hx⟩:∃x,xs[i]? =some x:=⟨_,List.getElem?_eq_getElem (by have:=HNN.out;omega)⟩
    obtain⟨g,rfl,hg,da,dc,h0,h1,h2⟩:=HRF.out i x hx;have c0:=(HB.out.cell (p:=⟨g,i*2,none⟩) hg).trans h0;have c1:=(HB.out.cell (p:=⟨g,i*2+1,none⟩) hg).trans h1;have HDR:Hid (xs.drop i=x::xs.drop (i+1)):=qq (by obtain⟨hil,he⟩:=List.getElem?_eq_some_iff.1 hx;rw[List.drop_eq_getElem_cons hil,he])
    have HTK:Hid (joinB (xs.take (i+1))=joinB (xs.take i) ++(x.t::(x.d.length / 256)::(x.d.length % 256)::x.d)):=qq (by
      obtain⟨hil,he⟩:=List.getElem?_eq_some_iff.1 hx;rw[List.take_succ_eq_append_getElem hil,he,joinB_append];simp[joinB])
    obtain⟨hx1,hx2,hx3⟩:=HT.out x (List.mem_of_getElem? hx);have hro:RowOk last (x::xs.drop (i+1)):=by rw[←HDR.out];exact HR.out
    obtain⟨hla,hdl,hR2⟩:=hro;have HR2:=qq hR2;have HDC:Hid (∀W,Below w.heap.size w W→∃gd,da=some ⟨gd,0,none⟩∧gd<w.heap.size∧∀(j c:Nat),x.d[j]? =some c→W.cell? ⟨gd,j,none⟩=some (.int .u8 (c:Int))):=qq (fun W hW=>by
      obtain⟨c,hc⟩:∃c,x.d[0]? =some c:=⟨_,List.getElem?_eq_getElem (List.length_pos_iff.2 hx2)⟩
      obtain⟨gd,rfl,hgd,_⟩:=h2 0 c hc;exact⟨gd,rfl,hgd,fun j c hj=>by obtain⟨gd',he,_,h3⟩:=h2 j c hj;injection he with he;injection he with he;subst he;exact(hW.cell (p:=⟨gd,j,none⟩) hgd).trans h3⟩)
    obtain⟨gd,rfl,hgd,-⟩:=HDC.out _ HB.out;obtain⟨t,d⟩:=x;dsimp only at*;obtain⟨nd,hnd⟩:∃n,n=d.length:=⟨_,rfl⟩
    have HND:=qq hnd;rw[←hnd] at c1 hdl;have hnd0:0<nd:=by rw[hnd];exact List.length_pos_iff.2 hx2
    have hla2:(last:Int)<(t:Int):=by omega
    have ht2:(t:Int)≤255:=by omega
    have hnd2:(nd:Int)≤200:=by omega
    have HBA:=qq (bel_alloc (bel_alloc HB.out (.cells #[(t:Int),.slice (some ⟨gd,0,none⟩) nd dc] 184)) (.cells #[.int .u8 (t:Int),.int .u8 0,.int .u8 (nd:Int)] 5));have hwr:=HB.out.size;have hrow:=row_be HO.out ((Below.refl wr.heap.size wr).alloc (Nat.le_refl _) (.cells #[(t:Int),.slice (some ⟨gd,0,none⟩) nd dc] 184) |>.alloc (by simp) (.cells #[.int .u8 (t:Int),.int .u8 0,.int .u8 (nd:Int)] 5))
    have HUB:=qq (fun k hk=>HO.out.lt k hk);have HFB:=qq ((Blk.fresh wr #[(t:Int),.slice (some ⟨gd,0,none⟩) nd dc] 184 _ rfl).alloc (.cells #[.int .u8 (t:Int),.int .u8 0,.int .u8 (nd:Int)] 5));have hza:w.heap.size≤((wr.alloc (.cells #[(t:Int),.slice (some ⟨gd,0,none⟩) nd dc] 184)).alloc (.cells #[.int .u8 (t:Int),.int .u8 0,.int .u8 (nd:Int)] 5)).heap.size:=by simp;omega
    have HDL:=qq (show ∀c∈d,c<256 from hx3);have hnd3:(nd:Int) / 256=0:=by omega
    clear h0 h1 h2 hx hlt hx2 hx3 hnd hR2
    go_wp2_with (at_builtin;refine wpList_append_own_at _ rfl _ _ 65 rfl w.heap.size 5 j0 (.int .u8 0) 1 1 Tryz.underlying65 fi fz fs fb rfl (by decide) _ _ _ rfl hrow ⟨wr.heap.size+1,0,none⟩ 3 3 [.int .u8 (t:Int),.int .u8 0,.int .u8 (nd:Int)] (by rfl) rfl (lit_cells (Blk.fresh _ _ _ _ (by simp))) (fun u hu=>by simp only[List.mem_cons,List.not_mem_nil,or_false] at hu;rcases hu with rfl | rfl | rfl<;>rfl) ?d3 ?d4 ?d5 ?_)
    case d3=>unfold maxLen;omega
    case d4=>omega
    case d5=>exact hza
    intro v2 w6 hown hgrow _ _;obtain⟨ua2,uc2,hu2⟩:=row_slice hown;subst hu2;have HO6:=qq hown;have HF6:=qq (HFB.out.same hgrow.size (hgrow.block _ HFB.out.lt (fun e=>by have:=(HUB.out _ e.symm).2;omega)));have HB6:=qq (HBA.out.grown hgrow HBA.out.size (fun j hj=>(HUB.out j hj).1));clear hown hgrow hrow hza;obtain⟨lf,qf,ff⟩:=HF6.out;obtain⟨gd2,hgd2,hgl,hcd⟩:=HDC.out _ HB6.out
    injection hgd2 with hgd2
    injection hgd2 with hgd2
    subst hgd2;have HCD:=qq hcd;have hn7:nu+3+nd≤5000:=by omega
    clear hcd;go_wp2_with (at_builtin;refine wpList_append_own_at _ rfl _ _ 65 rfl w.heap.size 5 j0 (.int .u8 0) 1 1 Tryz.underlying65 fi fz fs fb rfl (by decide) _ _ _ rfl HO6.out ⟨gd,0,none⟩ nd dc (bytesL d) (by rfl) ?e1 ?e2 (bytesL_one d) ?e3 ?e4 ?e5 ?_)
    case e1=>unfold bytesL;rw[List.length_map,HND.out]
    case e2=>
     intro j u hu;unfold bytesL at hu;rw[List.getElem?_map] at hu;obtain⟨c,hc,rfl⟩:=Option.map_eq_some_iff.1 hu;have hadd:((⟨gd,0,none⟩:Addr).add j)=⟨gd,j,none⟩:=by unfold Addr.add;split<;>simp_all
     (try rw[hadd])
     exact HCD.out j c hc
    case e3=>unfold maxLen;omega
    case e4=>omega
    case e5=>exact HB6.out.size
    intro v3 w7 hown hgrow _ _;obtain⟨ua3,uc3,hu3⟩:=row_slice hown;subst hu3;have hO7:w7.ownsRow w.heap.size 5 1 (.slice ua3 (nu+3+nd) uc3) (joinB (xs.take (i+1))).length (bytesL (joinB (xs.take (i+1)))):=by
     have e1:bytesL (joinB (xs.take (i+1)))=bytesL (joinB (xs.take i)) ++(.int .u8 (t:Int):: .int .u8 0:: .int .u8 (nd:Int)::bytesL d):=by
      rw[HTK.out,←HND.out];have h1:nd / 256=0:=by omega
      have h2:nd % 256=nd:=by omega
      rw[h1,h2];simp[bytesL,byteL]
     have e2:(joinB (xs.take (i+1))).length=nu+3+nd:=by rw[HTK.out,List.length_append,←HNU.out];simp[←HND.out];omega
     rw[e1,e2];exact hown
    have HO7:=qq hO7;have HB7:=qq (HB6.out.grown hgrow HB6.out.size (fun j hj=>(HO6.out.lt j hj).1));clear hown hgrow hO7 qf ff lf;go_wp2_with fail;go_roundw
    case rel=>exact⟨i+1,t,by omega,by go_num,rfl,HR2,HO7,HB7⟩
    case measure=>simp[intOf];omega
  · obtain rfl:i=N:=by omega
    have hall:xs.take i=xs:=List.take_of_length_le (by have:=HNN.out;omega);rw[hall] at HO HNU;clear hall hlt;go_wp2_with fail;go_ret2;exact⟨_,rfl,by rw[←HNU.out];exact HO.out,HB.out⟩
def numsF (f:SFact):List Int:=[f.k,f.an,f.aq,f.rg,f.nd,f.pt,f.pr,f.oc,f.dp,f.pa,f.st,f.hw,f.de]
def oneF (i:Nat) (n:Int):List Fld:=if n=0 then[] else[⟨i,numB n.toNat⟩]
def encN:Nat→List Int→List Fld
 | _,[]=>[]
 | i,n::t=>oneF i n ++encN (i+1) t
def encF (f:SFact):List Fld:=encN 1 (numsF f) ++(if f.k=1 then[⟨14,fltB f.ex⟩] else[])
def bytesF (f:SFact):List Nat:=joinB (encF f)
theorem stOk_nums {s h:Int} (hs:stOk s h=true):0≤s∧s≤14∧0≤h∧h≤8:=by
 unfold stOk at hs;split at hs
 · simp at hs;omega
 · simp at hs;omega
theorem fok_nums {f:SFact} (h:fok f=true):(∀n∈numsF f,0≤n∧n≤999999)∧(f.k≠1→f.ex=0)∧(f.k=1→fplain f.ex=f.ex):=by
 obtain⟨k,an,aq,rg,nd,pt,pr,oc,dp,pa,st,hw,de,ex⟩:=f;have hk:=fok_any h;have key:(0≤k∧k≤999999∧0≤an∧an≤999999∧0≤aq∧aq≤999999∧0≤rg∧rg≤999999∧0≤nd∧nd≤999999∧0≤pt∧pt≤999999∧0≤pr∧pr≤999999)∧(0≤oc∧oc≤999999∧0≤dp∧dp≤999999∧0≤pa∧pa≤999999∧0≤st∧st≤999999∧0≤hw∧hw≤999999∧0≤de∧de≤999999)∧(k≠1→ex=0)∧(k=1→fplain ex=ex):=by
  dsimp only at hk;unfold fok at h;dsimp only at h;by_cases h1:k=1
  · rw[if_pos h1,Bool.and_eq_true,Bool.and_eq_true,decide_eq_true_iff,decide_eq_true_iff] at h;have hi:=ctxOk_id h.1.1;have ho:=ctxOk_oc h.1.1;have hx:fplain ex=ex:=by
     have:=h.1.1;unfold ctxOk at this;simp only[Bool.and_eq_true,decide_eq_true_iff] at this;exact this.1.1.2
    exact⟨by omega,by omega,fun e=>absurd h1 e,fun _=>hx⟩
  · rw[if_neg h1,Bool.and_eq_true,decide_eq_true_iff] at h;obtain⟨h0,h⟩:=h;refine⟨?_,?_,fun _=>h0.1,fun e=>absurd e h1⟩
    all_goals
     by_cases h2:k=2
     · rw[if_pos h2] at h;simp only[Bool.and_eq_true,decide_eq_true_iff,idOk_iff] at h;omega
     rw[if_neg h2] at h;by_cases h3:k=3
     · rw[if_pos h3] at h;simp only[Bool.and_eq_true,decide_eq_true_iff,idOk_iff] at h;have hst:=stOk_nums h.1.2;omega
     rw[if_neg h3] at h;by_cases h4:k=4
     · rw[if_pos h4] at h;simp only[Bool.and_eq_true,decide_eq_true_iff,idOk_iff] at h;omega
     rw[if_neg h4] at h;by_cases h5:k=5
     · rw[if_pos h5] at h;simp only[Bool.and_eq_true,decide_eq_true_iff,idOk_iff] at h;omega
     rw[if_neg h5] at h;by_cases h6:k=6
     · rw[if_pos h6] at h;simp only[Bool.and_eq_true,decide_eq_true_iff,idOk_iff] at h;omega
     rw[if_neg h6] at h;by_cases h7:k=7
     · rw[if_pos h7] at h;simp only[Bool.and_eq_true,decide_eq_true_iff] at h;omega
     rw[if_neg h7] at h;by_cases h8:k=8
     · rw[if_pos h8] at h;simp only[Bool.and_eq_true,decide_eq_true_iff] at h;have hst:=stOk_nums h.1.2;omega
     rw[if_neg h8] at h
     cases h
 obtain⟨hA,hB,hC,hD⟩:=key;refine⟨fun n hn=> ?_,hC,hD⟩;simp only[numsF,List.mem_cons,List.not_mem_nil,or_false] at hn;omega
theorem encN_row:∀(l:List Int) (i last:Nat) (rest:List Fld),(∀n∈l,0≤n∧n≤999999)→last<i→(∀z,z<i+l.length→RowOk z rest)→RowOk last (encN i l ++rest)
 | [],i,last,rest,_,hlt,hr=>hr last (by simp;omega)
 | n::t,i,last,rest,hn,hlt,hr=>by
  have ih:=fun z (hz:z<i+1)=>encN_row t (i+1) z rest (fun m hm=>hn m (by simp[hm])) hz (fun y hy=>hr y (by simp;omega))
  unfold encN oneF;by_cases h0:n=0
  · rw[if_pos h0,List.nil_append];exact ih last (by omega)
  · rw[if_neg h0,List.cons_append,List.nil_append,List.cons_append];have:=hn n (by simp);have h1:=numF_numB (n:=n.toNat) (by omega) (by omega);exact⟨hlt,by dsimp only;omega,ih i (by omega)⟩
theorem encN_len:∀(l:List Int) (i:Nat),(encN i l).length≤l.length
 | [],_=>Nat.le_refl _
 | n::t,i=>by
  have:=encN_len t (i+1);unfold encN oneF;split
  · simp;omega
  · simp;omega
theorem encF_row {f:SFact} (h:fok f=true) (hx:F64 f.ex):RowOk 0 (encF f)∧(encF f).length≤14:=by
 have hn:=(fok_nums h).1;refine⟨?_,?_⟩
 · unfold encF;refine encN_row _ 1 0 _ hn (by omega) (fun z hz=> ?_);have hz14:z<14:=by simpa[numsF] using hz
   split
   · have:=(fltF_fltB hx).2.1;exact⟨hz14,by dsimp only;omega,trivial⟩
   · trivial
 · unfold encF;rw[List.length_append];have:=encN_len (numsF f) 1;have h13:(numsF f).length=13:=rfl;split<;>simp<;>omega
theorem rd_one {g:SFact} {b:Bool} {i:Nat} {n:Int} {t:List Fld} (h:0≤n∧n≤999999) (hi:1≤i∧i≤13) (h0:setTag g i 0=g):rdAll (g,b) (oneF i n ++t)=rdAll (setTag g i n,b) t:=by
 unfold oneF;by_cases hz:n=0
 · subst hz;rw[if_pos rfl,h0];rfl
 · rw[if_neg hz,List.cons_append,List.nil_append];have h1:=numF_numB (n:=n.toNat) (by omega) (by omega);refine rdStep_some ?_;unfold rdStep;rw[if_neg (by dsimp only;omega),if_neg (by dsimp only;rintro(e | e);omega;exact h1.2.1 e)];dsimp only;rw[h1.1];simp only[Option.map_some];rw[Int.toNat_of_nonneg h.1]
theorem rd_to {g g':SFact} {b:Bool} {i:Nat} {n:Int} {t:List Fld} (h:0≤n∧n≤999999) (hi:1≤i∧i≤13) (h0:setTag g i 0=g) (h1:setTag g i n=g'):rdAll (g,b) (oneF i n ++t)=rdAll (g',b) t:=by
 rw[rd_one h hi h0,h1]
theorem rd_encN {f:SFact} {b:Bool} {t:List Fld} (h:∀n∈numsF f,0≤n∧n≤999999):rdAll (fact00,b) (encN 1 (numsF f) ++t)=rdAll ({f with ex:=0},b) t:=by
 obtain⟨k,an,aq,rg,nd,pt,pr,oc,dp,pa,st,hw,de,ex⟩:=f;simp only[numsF,encN,List.append_assoc,List.nil_append];simp only[numsF,List.mem_cons,List.not_mem_nil,or_false] at h;refine(rd_to (g:=⟨0,0,0,0,0,0,0,0,0,0,0,0,0,0⟩) (g':=⟨k,0,0,0,0,0,0,0,0,0,0,0,0,0⟩) (i:=1) (n:=k) (h k (by simp)) (by omega) rfl rfl).trans ?_
 refine(rd_to (g:=⟨k,0,0,0,0,0,0,0,0,0,0,0,0,0⟩) (g':=⟨k,an,0,0,0,0,0,0,0,0,0,0,0,0⟩) (i:=2) (n:=an) (h an (by simp)) (by omega) rfl rfl).trans ?_;refine(rd_to (g:=⟨k,an,0,0,0,0,0,0,0,0,0,0,0,0⟩) (g':=⟨k,an,aq,0,0,0,0,0,0,0,0,0,0,0⟩) (i:=3) (n:=aq) (h aq (by simp)) (by omega) rfl rfl).trans ?_
 refine(rd_to (g:=⟨k,an,aq,0,0,0,0,0,0,0,0,0,0,0⟩) (g':=⟨k,an,aq,rg,0,0,0,0,0,0,0,0,0,0⟩) (i:=4) (n:=rg) (h rg (by simp)) (by omega) rfl rfl).trans ?_;refine(rd_to (g:=⟨k,an,aq,rg,0,0,0,0,0,0,0,0,0,0⟩) (g':=⟨k,an,aq,rg,nd,0,0,0,0,0,0,0,0,0⟩) (i:=5) (n:=nd) (h nd (by simp)) (by omega) rfl rfl).trans ?_
 refine(rd_to (g:=⟨k,an,aq,rg,nd,0,0,0,0,0,0,0,0,0⟩) (g':=⟨k,an,aq,rg,nd,pt,0,0,0,0,0,0,0,0⟩) (i:=6) (n:=pt) (h pt (by simp)) (by omega) rfl rfl).trans ?_;refine(rd_to (g:=⟨k,an,aq,rg,nd,pt,0,0,0,0,0,0,0,0⟩) (g':=⟨k,an,aq,rg,nd,pt,pr,0,0,0,0,0,0,0⟩) (i:=7) (n:=pr) (h pr (by simp)) (by omega) rfl rfl).trans ?_
 refine(rd_to (g:=⟨k,an,aq,rg,nd,pt,pr,0,0,0,0,0,0,0⟩) (g':=⟨k,an,aq,rg,nd,pt,pr,oc,0,0,0,0,0,0⟩) (i:=8) (n:=oc) (h oc (by simp)) (by omega) rfl rfl).trans ?_;refine(rd_to (g:=⟨k,an,aq,rg,nd,pt,pr,oc,0,0,0,0,0,0⟩) (g':=⟨k,an,aq,rg,nd,pt,pr,oc,dp,0,0,0,0,0⟩) (i:=9) (n:=dp) (h dp (by simp)) (by omega) rfl rfl).trans ?_
 refine(rd_to (g:=⟨k,an,aq,rg,nd,pt,pr,oc,dp,0,0,0,0,0⟩) (g':=⟨k,an,aq,rg,nd,pt,pr,oc,dp,pa,0,0,0,0⟩) (i:=10) (n:=pa) (h pa (by simp)) (by omega) rfl rfl).trans ?_;refine(rd_to (g:=⟨k,an,aq,rg,nd,pt,pr,oc,dp,pa,0,0,0,0⟩) (g':=⟨k,an,aq,rg,nd,pt,pr,oc,dp,pa,st,0,0,0⟩) (i:=11) (n:=st) (h st (by simp)) (by omega) rfl rfl).trans ?_
 refine(rd_to (g:=⟨k,an,aq,rg,nd,pt,pr,oc,dp,pa,st,0,0,0⟩) (g':=⟨k,an,aq,rg,nd,pt,pr,oc,dp,pa,st,hw,0,0⟩) (i:=12) (n:=hw) (h hw (by simp)) (by omega) rfl rfl).trans ?_;refine(rd_to (g:=⟨k,an,aq,rg,nd,pt,pr,oc,dp,pa,st,hw,0,0⟩) (g':=⟨k,an,aq,rg,nd,pt,pr,oc,dp,pa,st,hw,de,0⟩) (i:=13) (n:=de) (h de (by simp)) (by omega) rfl rfl).trans ?_;rfl
theorem rdFact_bytesF {f:SFact} (h:fok f=true) (hx:F64 f.ex):rdFact (bytesF f)=some f:=by
 obtain⟨hn,h1,h2⟩:=fok_nums h;obtain⟨hr,hl⟩:=encF_row h hx;have hs:splitE (bytesF f).length (bytesF f) 0 0=.ok (encF f):=split_join (encF f) _ 0 0 hr (by omega) (Nat.le_refl _);rw[rdFact_ok hs];unfold encF;rw[rd_encN hn];by_cases hk:f.k=1
 · rw[if_pos hk];have h3:=fltF_fltB hx;rw[rdStep_some (s':=({f with ex:=fplain f.ex},true)) (by unfold rdStep;rw[if_pos rfl];dsimp only;rw[h3.1];rfl),h2 hk];show rdEnd (some (f,true))=some f
   unfold rdEnd;simp only;rw[if_neg (by rw[h];simp[hk])]
 · rw[if_neg hk];have e:({f with ex:=0}:SFact)=f:=by
    obtain⟨k,an,aq,rg,nd,pt,pr,oc,dp,pa,st,hw,de,ex⟩:=f;have:=h1 hk;dsimp only at this;subst this;rfl
   rw[e];show rdEnd (some (f,false))=some f
   unfold rdEnd;simp only;rw[if_neg (by rw[h];simp[hk])]
theorem sreplay_bytes:∀(l:List SFact) (S:Sto),(∀f∈l,fok f=true∧F64 f.ex)→sreplay S (l.map bytesF)=sgo S l
 | [],S,_=>rfl
 | f::t,S,h=>by
  have hf:=h f (by simp);rw[List.map_cons,sreplay_cons,rdFact_bytesF hf.1 hf.2];show(if(sapply S f).2=0 then sreplay (sapply S f).1 (t.map bytesF) else none)=(if(sapply S f).2=0 then sgo (sapply S f).1 t else none)
  rw[sreplay_bytes t (sapply S f).1 (fun g hg=>h g (by simp[hg]))]
theorem sgo_fok:∀(l:List SFact) (S T:Sto),sgo S l=some T→∀f∈l,fok f=true
 | [],S,T,_,f,hf=>by cases hf
 | g::t,S,T,h,f,hf=>by
  have h':(if(sapply S g).2=0 then sgo (sapply S g).1 t else none)=some T:=h;split at h'
  · rename_i h0
    rcases List.mem_cons.1 hf with rfl | hf
    · cases hq:fok f with
      | true=>rfl
      | false=>
       unfold sapply at h0;rw[if_pos hq] at h0
       cases h0
    · exact sgo_fok t _ T h' f hf
  · cases h'
def SEx (S:Sto):Prop:=∀a∈S.acts,F64 a.ex
theorem sact_ex {a b:SAct} {f:SFact} (h:sact a f=some b):b.ex=a.ex:=by
 unfold sact at h;split at h
 · split at h
   · cases h
   · injection h with h;subst h;rfl
 · split at h
   · split at h
     · cases h
     · obtain⟨t,_,rfl⟩:=Option.map_eq_some_iff.1 h;rfl
   · split at h
     · cases h
     · injection h with h;subst h;rfl
theorem ex_put {S T:Sto} {f:SFact} (hS:SEx S) (hf:F64 f.ex) (h:sput S f=some T):SEx T:=by
 unfold sput at h;split at h
 · split at h
   · cases h
   · injection h with h
     subst h;intro a ha;rcases List.mem_append.1 ha with ha | ha
     · exact hS a ha
     · obtain rfl:=List.mem_singleton.1 ha;exact hf
 · split at h
   · split at h
     · cases h
     · injection h with h
       subst h;exact hS
   · split at h
     · split at h
       · cases h
       · split at h
         · obtain⟨t,_,rfl⟩:=Option.map_eq_some_iff.1 h;exact hS
         · split at h
           · cases h
           · injection h with h
             subst h;exact hS
     · split at h
       · cases h
       · split at h
         · cases h
         · rename_i i _ a ha
           split at h
           · split at h
             · cases h
             · injection h with h
               subst h;intro c hc;rcases List.mem_append.1 hc with hc | hc
               · exact hS c (List.mem_of_mem_take hc)
               · exact hS c (List.mem_of_mem_drop hc)
           · obtain⟨b,hb,rfl⟩:=Option.map_eq_some_iff.1 h;intro c hc;rcases List.mem_or_eq_of_mem_set hc with hc | rfl
             · exact hS c hc
             · rw[sact_ex hb];exact hS a (List.mem_of_getElem? ha)
theorem ex_apply {S:Sto} {f:SFact} (hS:SEx S) (hf:F64 f.ex):SEx (sapply S f).1:=by
 unfold sapply;split
 · exact hS
 · split
   · exact hS
   · rename_i T hT
     exact ex_put hS hf hT
theorem F64_zero:F64 0:=by unfold F64;decide
theorem ex_partsF:∀(ps:List SPart) (i:Nat),∀f∈partsF i ps,F64 f.ex
 | [],_,f,h=>by cases h
 | p::t,i,f,h=>by
  unfold partsF at h;rcases List.mem_append.1 h with h | h
  · unfold partF at h;rcases List.mem_cons.1 h with rfl | h
    · exact F64_zero
    · rcases List.mem_append.1 h with h | h
      · split at h
        · cases h
        · obtain rfl:=List.mem_singleton.1 h;exact F64_zero
      · split at h
        · cases h
        · obtain rfl:=List.mem_singleton.1 h;exact F64_zero
  · exact ex_partsF t (i+1) f h
theorem ex_enrF (a:SAct):∀(rs:List SReg) (i:Nat),∀f∈enrF a i rs,F64 f.ex
 | [],_,f,h=>by cases h
 | r::t,i,f,h=>by
  unfold enrF at h;rcases List.mem_cons.1 h with rfl | h
  · exact F64_zero
  · exact ex_enrF a t (i+1) f h
theorem ex_seatF (a:SAct):∀(rs:List SReg) (i:Nat),∀f∈seatF a i rs,F64 f.ex
 | [],_,f,h=>by cases h
 | r::t,i,f,h=>by
  unfold seatF at h;rcases List.mem_append.1 h with h | h
  · split at h
    · cases h
    · obtain rfl:=List.mem_singleton.1 h;exact F64_zero
  · exact ex_seatF a t (i+1) f h
theorem ex_sfacts {S:Sto} (hS:SEx S):∀f∈sfacts S,F64 f.ex:=by
 intro f h;unfold sfacts at h;rcases List.mem_append.1 h with h | h
 · exact ex_partsF _ _ f h
 · rcases List.mem_append.1 h with h | h
   · obtain⟨a,ha,h⟩:=List.mem_flatMap.1 h;unfold actF at h;rcases List.mem_cons.1 h with rfl | h
     · exact hS a ha
     · rcases List.mem_append.1 h with h | h
       · exact ex_enrF a _ _ f h
       · rcases List.mem_append.1 h with h | h
         · exact ex_seatF a _ _ f h
         · split at h
           · cases h
           · obtain rfl:=List.mem_singleton.1 h;exact F64_zero
   · unfold lastF at h;split at h
     · rcases List.mem_cons.1 h with rfl | h
       · exact F64_zero
       · obtain rfl:=List.mem_singleton.1 h;exact F64_zero
     · cases h
theorem sfacts_ok {S:Sto} (hG:StoGood S) (hr:SRoom S) (hx:SEx S):∀f∈sfacts S,fok f=true∧F64 f.ex:=fun f hf=>⟨sgo_fok _ _ _ (sgo_sfacts hG hr) f hf,ex_sfacts hx f hf⟩
theorem sreplay_rows {S:Sto} (hG:StoGood S) (hr:SRoom S) (hx:SEx S):sreplay ⟨S.node,0,[],[]⟩ ((sfacts S).map bytesF)=some S:=by
 rw[sreplay_bytes _ _ (sfacts_ok hG hr hx)];exact sgo_sfacts hG hr
theorem catch_idle_by (d x e : Addr) (w : World) (hd : w.cell? d = some (.bool true)) :
    CallsD Tryz.prog 265 #[.pointer (some d),.pointer (some x),.pointer (some e)] .returning w fun en u' w'=>en=.returned (.tuple #[])∧u'=.returning∧w'=w:=by
 refine callsD_of_wpS Tryz.func265 rfl fun c₀ cs hu=> ?_
 apply wpS_seq;apply wpS_region;simp[wpOpsS,go_sem,recoverD,hu,Tryz.ntmps265,Exit.thenS];apply wpS_seq;apply wpS_region;simp[wpOpsS,go_sem,hd,Exit.thenS];refine wpS_cond (t:=false) (by simp[Act.eval,Array.replicate]) ?_;simp only[Bool.false_eq_true,if_false];refine wpS_of_wp (wp_skip ?_)
 cases c₀
 simp_all [bodyPostS,results,Tryz.results265]
theorem try_gives_fbytes (p : Addr) (Rl : Value → World → Prop) (w : World) (h : ∀ W, Below w.heap.size w W → w.heap.size + 3 ≤ W.heap.size → Calls Tryz.prog 213 #[.pointer (some p)] W (fun e w' => ∃ a n c, e = .returned (.slice a n c) ∧ Rl (.slice a n c) w' ∧ Below W.heap.size W w'))
    (hR:∀v (W W':World),Rl v W→W.heap.size≤W'.heap.size→(∀k,k<w.heap.size∨w.heap.size+3≤k→W'.heap[k]? =W.heap[k]?)→Rl v W'):
    Calls Tryz.prog 212 #[.func (.func 213) #[] #[.pointer (some p)]] w (fun e w'=>∃a n c,e=.returned (.tuple #[.slice a n c,.nilIface])∧Rl (.slice a n c) w'∧Below w.heap.size w w'):=by
 have hmf:∀(fn:Fn) (first cap:Array Value) (w:World),(Instr.makeFunc fn first cap).run Tryz.prog w=.ok (.func fn first cap) w:=fun _ _ _ _=>rfl
 have H:=qq h;have HRL:=qq hR;clear h hR;go_enter_defers Tryz.func212,Tryz.ntmps212;go_wp2_with fail;refine(H.out _ (by go_grown) (by simp)).mono ?_;rintro e w1 ⟨va,vn,vc,rfl,hrl,hb1⟩;have HX:=(((Blk.fresh w #[.slice none 0 0] 65 _ rfl).below (by go_grown)).below hb1:Blk w1 w.heap.size _)
 have HE:=(((Blk.fresh (w.alloc (.cells #[.slice none 0 0] 65)) #[.nilIface] 26 (w.heap.size+1) (by simp)).below (by go_grown)).below hb1:Blk w1 (w.heap.size+1) _)
 have HD:=((Blk.fresh ((w.alloc (.cells #[.slice none 0 0] 65)).alloc (.cells #[.nilIface] 26)) #[.bool false] 4 (w.heap.size+1+1) (by simp)).below hb1:Blk w1 (w.heap.size+1+1) _)
 have x0:w1.cell? ⟨w.heap.size,0,none⟩=some (.slice none 0 0):=HX.cell 0;have x1:=HX.free 0;have e0:w1.cell? ⟨w.heap.size+1,0,none⟩=some .nilIface:=HE.cell 0;have e1:=HE.free 0;have d0:w1.cell? ⟨w.heap.size+1+1,0,none⟩=some (.bool false):=HD.cell 0;have d1:=HD.free 0;clear HX HE HD;have HB:Below w.heap.size w w1:=below_then (by go_grown) hb1;have HRR:=qq hrl;clear hrl;go_wp2_with fail
 refine leaves_cons (f:=265) (args:= #[.pointer (some ⟨w.heap.size+1+1,0,none⟩),.pointer (some ⟨w.heap.size,0,none⟩),.pointer (some ⟨w.heap.size+1,0,none⟩)]) (by simp) (by simp[go_sem]) ?_;refine(catch_idle_by _ _ _ _ (by simp[go_sem,d0,x0,e0])).mono ?_;rintro e u' w'' ⟨rfl,rfl,rfl⟩;simp[Leaves,settle,results,Tryz.results212,go_sem,d0,x0,e0,d1,x1,e1]
 refine⟨va,vn,vc,⟨rfl,rfl,rfl⟩,HRL.out _ _ _ HRR.out (by simp) (fun k hk=> ?_),(((HB.setCell (p:=⟨w.heap.size,0,none⟩) (Nat.le_refl _) _).setCell (p:=⟨w.heap.size+1+1,0,none⟩) (by dsimp only;omega) _).setCell (p:=⟨w.heap.size,0,none⟩) (Nat.le_refl _) _).setCell (p:=⟨w.heap.size+1,0,none⟩) (by dsimp only;omega) _⟩
 rw[Below.heap_setCell _ _ _ _ (by(try dsimp only);omega),Below.heap_setCell _ _ _ _ (by(try dsimp only);omega),Below.heap_setCell _ _ _ _ (by(try dsimp only);omega),Below.heap_setCell _ _ _ _ (by(try dsimp only);omega)]
theorem check_nil (w:World):Calls Tryz.prog 211 #[.nilIface] w (fun e w'=>e=.returned (.tuple #[])∧w=w'):=by
 go_enter Tryz.func211,Tryz.ntmps211;go_wp2_with fail;exact bodyPost_end (results_none rfl _ _ _) rfl ⟨rfl,rfl⟩
theorem must_of (a:Option Addr) (n c:Nat) (w:World):Calls Tryz.prog 109 #[.slice a n c,.nilIface] w (fun e w'=>e=.returned (.slice a n c)∧w=w'):=by
 have HC:=qq check_nil;go_enter Tryz.func109,Tryz.ntmps109;go_wp2_with fail;refine(HC.out _).mono ?_;rintro e w1 ⟨rfl,rfl⟩;go_wp2_with fail;go_ret;exact⟨rfl,rfl⟩
theorem pl_index (p i:Nat) (hi:i<13):∀w:World,(Instr.index 287 (.agg (plA p)) (.int .i64 (i:Int))).run Tryz.prog w=.ok (.pointer (some ⟨p,i,none⟩)) w:=by
 have h:∀j:Fin 13,∀w:World,(Instr.index 287 (.agg (plA p)) (.int .i64 (j.1:Int))).run Tryz.prog w=.ok (.pointer (some ⟨p,j.1,none⟩)) w:=by
  intro j
  match j with
  | 0 | 1 | 2 | 3 | 4 | 5 | 6 | 7 | 8 | 9 | 10 | 11 | 12=>exact fun w=>by kernel_rfl
 exact h ⟨i,hi⟩
theorem numsF_cell (f:SFact) (i:Nat) (n:Int) (h:(numsF f)[i]? =some n):(factC f)[i]? =some (.int .i64 n):=by
 unfold numsF at h
 match i,h with
 | 0,h | 1,h | 2,h | 3,h | 4,h | 5,h | 6,h | 7,h | 8,h | 9,h | 10,h | 11,h | 12,h=>injection h with h;subst h;rfl
 | k+13,h=>simp at h
theorem encN_append:∀(l m:List Int) (i:Nat),encN i (l ++m)=encN i l ++encN (i+l.length) m
 | [],m,i=>by simp[encN]
 | n::t,m,i=>by
  show oneF i n ++encN (i+1) (t ++m)=(oneF i n ++encN (i+1) t) ++_
  rw[encN_append t m (i+1),List.append_assoc];congr 3;simp;omega
theorem oneF_fld {i m:Nat} (h:m≠0):oneF i (m:Int)=[⟨i,numB m⟩]:=by
 unfold oneF;rw[if_neg (by omega)];rfl
theorem oneF_mem {i:Nat} {n:Int} (h:0≤n∧n≤999999) (hi:i≤255):∀x∈oneF i n,x.t≤255∧x.d≠[]∧∀c∈x.d,c<256:=by
 intro x hx;unfold oneF at hx;split at hx
 · cases hx
 · obtain rfl:=List.mem_singleton.1 hx;have:=numF_numB (n:=n.toNat) (by omega) (by omega);exact⟨hi,this.2.1,this.2.2.2⟩
theorem encN_mem:∀(l:List Int) (i:Nat),(∀n∈l,0≤n∧n≤999999)→i+l.length≤255→∀x∈encN i l,x.t≤255∧x.d≠[]∧∀c∈x.d,c<256
 | [],_,_,_,x,h=>by cases h
 | n::t,i,hn,hi,x,h=>by
  simp only[List.length_cons] at hi;rcases List.mem_append.1 h with h | h
  · exact oneF_mem (hn n (by simp)) (by omega) x h
  · exact encN_mem t (i+1) (fun m hm=>hn m (by simp[hm])) (by omega) x h
theorem encF_mem {f:SFact} (h:fok f=true) (hx:F64 f.ex):∀x∈encF f,x.t≤255∧x.d≠[]∧∀c∈x.d,c<256:=by
 intro x hm;unfold encF at hm;rcases List.mem_append.1 hm with hm | hm
 · exact encN_mem _ 1 (fok_nums h).1 (by show 1+13≤255;omega) x hm
 · split at hm
   · obtain rfl:=List.mem_singleton.1 hm;have:=fltF_fltB hx;exact⟨by show 14≤255;omega,(fun(e:fltB f.ex=[])=>by have h8:=this.2.1;rw[e] at h8;cases h8),this.2.2⟩
   · cases hm
def BytesEnds (f:SFact) (w:World) (e:Ending) (w':World):Prop:=∃a c,e=.returned (.slice a (bytesF f).length c)∧w'.ownsRow w.heap.size 5 1 (.slice a (bytesF f).length c) (bytesF f).length (bytesL (bytesF f))∧Below w.heap.size w w'
theorem bytes1_of (p:Nat) (f:SFact) (w:World) (hp:Blk w p (factC f)) (hok:fok f=true) (hx:F64 f.ex):Calls Tryz.prog 213 #[.pointer (some ⟨p,0,none⟩)] w (BytesEnds f w):=by
 obtain⟨i0,ei,ez,es,eb⟩:=info_parts infoFld;have HPL:=qq (fun W=>places_of p W);have HNU:=qq (fun n W (hn:n<9223372036854775808)=>number_of n hn W);have HMU:=qq must_of;have HFL:=qq (fun W=>floatB_of f.ex hx W);have HJO:=qq (fun a cap N W (hN:N=(encF f).length) (hF:ReadFlds W (.slice a N cap) (encF f)) (hl:N≤16)=>fjoin_of a cap N (encF f) W hN hF (encF_row hok hx).1 (encF_mem hok hx) hl)
 have HOK:=qq (fok_nums hok).1;have HLE:=qq (encF_row hok hx).2;have hpw:=hp.lt;have HCL:=qq (fun W (hW:Below w.heap.size w W)=>(hp.below hW).cell);have HIX:=qq (pl_index p);clear hp hok hx;go_enter Tryz.func213,Tryz.ntmps213;go_wp2_with fail;refine(HPL.out _).mono ?_;rintro e w1 ⟨rfl,hb1⟩;have HB1:=qq hb1;obtain⟨pl,hpl⟩:∃v,v=Value.agg (plA p):=⟨_,rfl⟩
 rw[←hpl] at HIX⊢;clear hb1 hpl;go_wp2_with fail;go_loopw [2,6] (fun u cc wr=>∃i:Nat,i≤13∧cc=.int .i64 (i:Int)∧Hid (∃vs,FldsAt w.heap.size u (encN 1 ((numsF f).take i)) vs wr)∧Hid (Below w.heap.size w wr)) (fun _ cc _=>13 - (intOf cc).toNat)
 case atStart=>exact⟨0,by omega,by first | rfl | go_num,qq ⟨[],FldsAt.nil _ _⟩,HB1⟩
 case round=>
  obtain⟨i,hi,rfl,⟨vs,hfl⟩,HB⟩:=hrel;have HF:=qq hfl;obtain⟨ua,uc,hu⟩:=row_slice hfl.row;subst hu;obtain⟨nu,hnu⟩:∃x,x=(encN 1 ((numsF f).take i)).length:=⟨_,rfl⟩
  have hnu2:nu≤13:=by have h1:=encN_len ((numsF f).take i) 1;rw[List.length_take] at h1;omega
  rw[←hnu] at HF⊢;have HNUL:=qq hnu;clear hfl hnu;have hi0:(0:Int)≤(i:Int):=by omega
  by_cases hlt:i<13
  · have hi1:(i:Int)<13:=by omega
    obtain⟨n,hn⟩:∃n,(numsF f)[i]? =some n:=⟨_,List.getElem?_eq_getElem (by exact hlt)⟩
    have hn2:=HOK.out n (List.mem_of_getElem? hn);obtain⟨m,rfl⟩:∃m:Nat,n=(m:Int):=⟨n.toNat,by omega⟩
    have c0:wr.cell? ⟨p,i,none⟩=some (.int .i64 (m:Int)):=(HCL.out _ HB.out i).trans (numsF_cell f i _ hn);have HTK:Hid (encN 1 ((numsF f).take (i+1))=encN 1 ((numsF f).take i) ++oneF (i+1) (m:Int)):=qq (by
      obtain⟨hil,he⟩:=List.getElem?_eq_some_iff.1 hn;rw[List.take_succ_eq_append_getElem hil,he,encN_append,List.length_take,Nat.min_eq_left (Nat.le_of_lt hil)];show _ ++(oneF (1+i) m ++ [])=_
      rw[List.append_nil,Nat.add_comm])
    have hix:=HIX.out i hlt;clear hn;by_cases hm:m=0
    · subst hm;have hz:oneF (i+1) ((0:Nat):Int)=[]:=rfl;rw[hz,List.append_nil] at HTK;clear hz;go_wp2_with fail;go_roundw
      case rel=>exact⟨i+1,by omega,by go_num,qq ⟨vs,by rw[HTK.out];exact HF.out⟩,HB⟩
      case measure=>simp[intOf];omega
    · have hmb:((m:Int)==0)=false:=by simpa using hm
      have hmc:((m:Int) !=0)=true:=by simpa using hm
      rw[oneF_fld hm] at HTK;have HNM:=qq (fun W=>HNU.out m W (by omega));clear hn2;go_wp2_with fail;refine(HNM.out _).mono ?_;rintro e w3 ⟨nv,rfl,hown,hb3⟩;obtain⟨na,nc,rfl⟩:=row_slice hown;have HOW:=qq hown;have HB3:=qq (below_then HB.out hb3);have HF3:=qq (HF.out.heap (w':=w3) (fun k _ hk=>hb3.block k hk));have hwr:=HB.out.size;have hw3:=hb3.size;obtain⟨nd,hnd⟩:∃x,x=(numB m).length:=⟨_,rfl⟩
      have HND:=qq hnd;rw[←hnd] at HOW⊢;clear hown hb3 hnd;go_wp2_with fail;refine(HMU.out na nd nc _).mono ?_;rintro e w4 ⟨rfl,rfl⟩;have hal:=(Below.refl w3.heap.size w3).alloc (Nat.le_refl _) (.cells #[.int .i64 ((i:Int)+1),.slice na nd nc] 184);have HFA:=qq (HF3.out.heap (fun k _ hkl=>hal.block k hkl));have HDA:=qq (row_be HOW.out hal);have HBA:=qq (below_then HB3.out hal)
      have hza:w.heap.size≤(w3.alloc (.cells #[.int .i64 ((i:Int)+1),.slice na nd nc] 184)).heap.size:=by simp;omega
      have hrow:(w3.alloc (.cells #[.int .i64 ((i:Int)+1),.slice na nd nc] 184)).ownsRow w.heap.size 184 2 (.slice ua nu uc) nu (fldsL (encN 1 ((numsF f).take i)) vs):=by have:=HFA.out.row;rw[←HNUL.out] at this;exact this
      clear hal
      go_wp2_with (at_builtin;refine wpList_append_own_at _ rfl _ _ 179 rfl w.heap.size 184 i0 (.agg #[.int .i64 0,.slice none 0 0]) 2 32 Tryz.underlying179 ei ez es eb rfl (by decide) _ _ _ rfl hrow ⟨w3.heap.size,0,none⟩ 1 1 [.int .i64 ((i:Int)+1),.slice na nd nc] (by rfl) rfl (lit_cells (Blk.fresh _ _ _ _ rfl)) (fun u hu=>by simp only[List.mem_cons,List.not_mem_nil,or_false] at hu;rcases hu with rfl | rfl<;>rfl) ?d3 ?d4 ?d5 ?_)
      case d3=>unfold maxLen;omega
      case d4=>omega
      case d5=>exact hza
      intro v2 w6 hown hgrow _ hat;have hsn:=HFA.out.snoc (x:=⟨i+1,numB m⟩) (dv:=.slice na nd nc) (row_mono (B':=wr.heap.size) (by dsimp only;rw[←HND.out];exact HDA.out) (by omega)) (fun k hk e=>by have h1:=(HOW.out.lt k hk).1;have h2:=(HF.out.row.lt k e).2;omega) (by rw[←HNUL.out];exact hown) (by exact hgrow) (by rw[World.size_alloc];exact hat);have HSN:=qq hsn
      have HB6:=qq (HBA.out.grown hgrow HBA.out.size (fun j hj=>(HF.out.row.lt j hj).1));clear hown hgrow hat hsn hrow hza;go_wp2_with fail;go_roundw
      case rel=>exact⟨i+1,by omega,by go_num,qq ⟨_,by rw[HTK.out];exact HSN.out⟩,HB6⟩
      case measure=>simp[intOf];omega
  · obtain rfl:i=13:=by omega
    have hall:encN 1 ((numsF f).take 13)=encN 1 (numsF f):=rfl;rw[hall] at HF HNUL;clear hall hlt HIX;have c0:wr.cell? ⟨p,0,none⟩=some (.int .i64 f.k):=HCL.out _ HB.out 0;have c13:wr.cell? ⟨p,13,none⟩=some (.float .f64 f.ex):=HCL.out _ HB.out 13;have hwr:=HB.out.size;by_cases hk:f.k=1
    · have HEN:Hid (encF f=encN 1 (numsF f) ++ [⟨14,fltB f.ex⟩]):=qq (by unfold encF;rw[if_pos hk]);rw[hk] at c0;clear hk;go_wp2_with fail;refine(HFL.out _).mono ?_;rintro e w3 ⟨rfl,hown,hb3⟩;have HOW:=qq hown;have HB3:=qq (below_then HB.out hb3);have HF3:=qq (HF.out.heap (w':=w3) (fun k _ hk=>hb3.block k hk));have hw3:=hb3.size;obtain⟨fbk,hfbk⟩:∃x,x=wr.heap.size:=⟨_,rfl⟩
      have HFBK:=qq hfbk;rw[←hfbk] at HOW⊢;clear hown hb3 hfbk;have hal:=(Below.refl w3.heap.size w3).alloc (Nat.le_refl _) (.cells #[.int .i64 14,.slice (some ⟨fbk,0,none⟩) 8 8] 184);have HFA:=qq (HF3.out.heap (fun k _ hkl=>hal.block k hkl));have HDA:=qq (row_be HOW.out hal);have HBA:=qq (below_then HB3.out hal)
      have hza:w.heap.size≤(w3.alloc (.cells #[.int .i64 14,.slice (some ⟨fbk,0,none⟩) 8 8] 184)).heap.size:=by simp;omega
      have hrow:(w3.alloc (.cells #[.int .i64 14,.slice (some ⟨fbk,0,none⟩) 8 8] 184)).ownsRow w.heap.size 184 2 (.slice ua nu uc) nu (fldsL (encN 1 (numsF f)) vs):=by have:=HFA.out.row;rw[←HNUL.out] at this;exact this
      clear hal
      go_wp2_with (at_builtin;refine wpList_append_own_at _ rfl _ _ 179 rfl w.heap.size 184 i0 (.agg #[.int .i64 0,.slice none 0 0]) 2 32 Tryz.underlying179 ei ez es eb rfl (by decide) _ _ _ rfl hrow ⟨w3.heap.size,0,none⟩ 1 1 [.int .i64 14,.slice (some ⟨fbk,0,none⟩) 8 8] (by rfl) rfl (lit_cells (Blk.fresh _ _ _ _ rfl)) (fun u hu=>by simp only[List.mem_cons,List.not_mem_nil,or_false] at hu;rcases hu with rfl | rfl<;>rfl) ?g3 ?g4 ?g5 ?_)
      case g3=>unfold maxLen;omega
      case g4=>omega
      case g5=>exact hza
      intro v2 w6 hown hgrow _ hat;have hsn:=HFA.out.snoc (x:=⟨14,fltB f.ex⟩) (dv:=.slice (some ⟨fbk,0,none⟩) 8 8) (row_mono (B':=fbk) (by exact HDA.out) (by have:=HFBK.out;omega)) (fun k hk e=>by have h1:=(HOW.out.lt k hk).1;have h2:=(HF.out.row.lt k e).2;have h3:=HFBK.out;omega) (by rw[←HNUL.out];exact hown) (by exact hgrow) (by rw[World.size_alloc];exact hat);rw[←HEN.out] at hsn
      have hle:nu+1=(encF f).length:=by rw[HEN.out,List.length_append,←HNUL.out];rfl
      have HLN:=qq hle;obtain⟨ua6,uc6,hu6⟩:=row_slice hown;subst hu6;have HF6:=qq hsn;have HB6:=qq (HBA.out.grown hgrow HBA.out.size (fun j hj=>(HF.out.row.lt j hj).1));clear hown hgrow hat hsn hrow hza hle HEN;have HEN:Hid ((encF f).length=nu+1):=qq HLN.out.symm;have HJ:=qq (HJO.out _ _ (nu+1) w6 (by rw[HEN.out]) (read_flds HF6.out) (by omega));go_wp2_with fail;refine HJ.out.mono ?_
      rintro e w8 ⟨jv,rfl,hown,hb8⟩;obtain⟨ja,jc,rfl⟩:=row_slice hown;have HOW:=qq (row_mono hown HB6.out.size);have HB8:=qq (below_then HB6.out hb8);clear hown hb8;obtain⟨nj,hnj⟩:∃x,x=(joinB (encF f)).length:=⟨_,rfl⟩
      rw[←hnj] at HOW⊢;have HNJ:Hid ((bytesF f).length=nj):=qq hnj.symm;clear hnj;go_wp2_with fail;refine(HMU.out ja nj jc _).mono ?_;rintro e w9 ⟨rfl,rfl⟩;go_wp2_with fail;go_ret;exact⟨ja,jc,by rw[HNJ.out];rfl,by rw[HNJ.out];exact HOW.out,HB8.out⟩
    · have HEN0:Hid (encF f=encN 1 (numsF f)):=qq (by unfold encF;rw[if_neg hk,List.append_nil]);have HEN:Hid ((encF f).length=nu):=qq (by rw[HEN0.out];exact HNUL.out.symm);have HF6:Hid (FldsAt w.heap.size (.slice ua nu uc) (encF f) vs wr):=qq (by rw[HEN0.out];exact HF.out);have hkb:(f.k==1)=false:=by simpa using hk
      have HJ:=qq (HJO.out _ _ nu wr (by rw[HEN.out]) (read_flds HF6.out) (by omega));go_wp2_with fail;refine HJ.out.mono ?_;rintro e w8 ⟨jv,rfl,hown,hb8⟩;obtain⟨ja,jc,rfl⟩:=row_slice hown;have HOW:=qq (row_mono hown HB.out.size);have HB8:=qq (below_then HB.out hb8);clear hown hb8;obtain⟨nj,hnj⟩:∃x,x=(joinB (encF f)).length:=⟨_,rfl⟩
      rw[←hnj] at HOW⊢;have HNJ:Hid ((bytesF f).length=nj):=qq hnj.symm;clear hnj;go_wp2_with fail;refine(HMU.out ja nj jc _).mono ?_;rintro e w9 ⟨rfl,rfl⟩;go_wp2_with fail;go_ret;exact⟨ja,jc,by rw[HNJ.out];rfl,by rw[HNJ.out];exact HOW.out,HB8.out⟩
theorem fbytes_of (f:SFact) (ea:Int→Addr) (w:World) (hE:EnvS ea w) (hok:fok f=true) (hx:F64 f.ex):Calls Tryz.prog 110 #[factV f] w (fun e w'=>∃a c,e=.returned (.tuple #[.slice a (bytesF f).length c,.nilIface])∧w'.ownsRow w.heap.size 5 1 (.slice a (bytesF f).length c) (bytesF f).length (bytesL (bytesF f))∧Below w.heap.size w w'):=by
 have hmf:∀(fn:Fn) (first cap:Array Value) (w:World),(Instr.makeFunc fn first cap).run Tryz.prog w=.ok (.func fn first cap) w:=fun _ _ _ _=>rfl
 have HRI:=qq (fun W (hW:Below w.heap.size w W)=>(hok▸factRight_of f hx ea W (hE.below hW):Calls Tryz.prog 83 #[factV f] W (Makes (.bool true) W)));have HTR:=qq (fun(W:World) (hW:Below w.heap.size w W) (hB:Blk W w.heap.size (factC f))=>try_gives_fbytes ⟨w.heap.size,0,none⟩ (fun v W'=>∃a c,v=.slice a (bytesF f).length c∧W'.ownsRow (W.heap.size+3) 5 1 v (bytesF f).length (bytesL (bytesF f))) W
   (fun W' hW' hz=>(bytes1_of w.heap.size f W' (hB.below hW') hok hx).mono fun e w' he=>by
     obtain⟨a,c,h1,h2,h3⟩:=he;exact⟨a,_,c,h1,⟨a,c,rfl,row_mono h2 hz⟩,h3⟩)
   (fun v W1 W2 h hz hk=>by
     obtain⟨a,c,h1,h2⟩:=h;exact⟨a,c,h1,row_heap h2 (fun k hk1=>hk k (.inr (h2.lt k hk1).1))⟩))
 have HK:=qq (Blk.fresh w (factC f) 39 _ rfl);have HB0:Hid (Below w.heap.size w (w.alloc (.cells (factC f) 39))):=qq (by go_grown);clear hE hok hx;obtain⟨k,an,aq,rg,nd,pt,pr,oc,dp,pa,st,hw,de,ex⟩:=f;simp only[factV,factC] at*;go_enter Tryz.func110,Tryz.ntmps110;go_wp2_with fail;refine(HRI.out _ HB0.out).mono ?_;rintro e w1 ⟨rfl,hb1⟩;have HK1:=qq (HK.out.below hb1)
 have HB1:=qq (below_then HB0.out hb1);have hz1:=HB1.out.size;clear hb1;go_wp2_with fail;refine(HTR.out _ HB1.out HK1.out).mono ?_;rintro e w2 ⟨va,vn,vc,rfl,⟨va2,vc2,hv,hrow⟩,hb2⟩;injection hv with hv1 hv2 hv3
 subst hv1 hv2 hv3;have HB2:=qq (below_then HB1.out hb2);have HR2:=qq (row_mono (B:=w.heap.size) hrow (by omega));clear hb2 hrow;obtain⟨nj,hnj⟩:∃x,x=(bytesF ⟨k,an,aq,rg,nd,pt,pr,oc,dp,pa,st,hw,de,ex⟩).length:=⟨_,rfl⟩
 have HNJ:=qq hnj;rw[←hnj] at HR2;simp only[←hnj];clear hnj;go_wp2_with fail;refine bodyPost_ret (v:=.tuple #[.slice va nj vc,.nilIface]) (by simp[results,Tryz.results110,go_sem]) rfl ?_;rw[HNJ.out] at HR2⊢;exact⟨va,vc,rfl,HR2.out,HB2.out⟩
end Go.Proofs.YtlkajejbfojkeaaGreatDoor
