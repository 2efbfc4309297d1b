/- PolQ, PolR, PolE0, PolE, PolF1, PolF2 -/
import Derived.Lib.SlicesCompact
import Derived.Test.YtbepkpjcjpmpmaaGreatDoorAPolCToPolD
import Derived.Shelf.SlGeneric
import Derived.Ground.SlgnProg
import Derived.Shelf.SlicesE.Clone
import Derived.Shelf.SlicesE.Compact
import Derived.Shelf.SlicesE.Equal
import Derived.Shelf.SlicesE.Kit
import Derived.Lib.OwnBridge
import Derived.Ground.SlgmProg
import Derived.Shelf.SortM.Plain
import Derived.Shelf.SortM.SortNone
import Derived.Sort.OwnSorted
set_option linter.unusedSimpArgs false
set_option linter.unusedVariables false
set_option maxRecDepth 100000
set_option maxHeartbeats 16000000
namespace Go.Proofs.YtbepkpjcjpmpmaaGreatDoor
structure TO {α:Type} (lt:α→α→Bool):Prop where
 irr:∀a,lt a a=false
 tr:∀a b c,lt a b=true→lt b c=true→lt a c=true
 eq:∀a b,lt a b=false→lt b a=false→a=b
theorem TO.asym {α:Type} {lt:α→α→Bool} (h:TO lt) {a b:α} (hab:lt a b=true):lt b a=false:=by
 cases hb:lt b a with
 | false=>rfl
 | true=>have:=h.tr _ _ _ hab hb;rw[h.irr] at this;cases this
def lexLt {α:Type} (lt:α→α→Bool):List α→List α→Bool
 | _,[]=>false
 | [],_::_=>true
 | a::s,b::t=>lt a b || (!lt b a && lexLt lt s t)
theorem TO.lex {α:Type} {lt:α→α→Bool} (h:TO lt):TO (lexLt lt):=by
 refine⟨?_,?_,?_⟩
 · intro a
   induction a with
   | nil=>rfl
   | cons x t ih=>unfold lexLt;rw[h.irr,ih];rfl
 · intro a
   induction a with
   | nil=>
    intro b c hab hbc
    cases c with
    | nil=>cases b<;>simp[lexLt] at hbc
    | cons z c=>rfl
   | cons x s ih=>
    intro b c hab hbc
    cases b with
    | nil=>simp[lexLt] at hab
    | cons y t=>
     cases c with
     | nil=>simp[lexLt] at hbc
     | cons z u=>
      unfold lexLt at hab hbc⊢;simp only[Bool.or_eq_true,Bool.and_eq_true,Bool.not_eq_true'] at hab hbc⊢;rcases hab with hab | ⟨h1,h2⟩
      · rcases hbc with hbc | ⟨h3,h4⟩
        · exact .inl (h.tr _ _ _ hab hbc)
        · by_cases hyz:lt y z=true
          · exact .inl (h.tr _ _ _ hab hyz)
          · have:=h.eq y z (by simpa using hyz) h3;subst this;exact .inl hab
      · rcases hbc with hbc | ⟨h3,h4⟩
        · by_cases hxy:lt x y=true
          · exact .inl (h.tr _ _ _ hxy hbc)
          · have:=h.eq x y (by simpa using hxy) h1;subst this;exact .inl hbc
        · by_cases hxy:lt x y=true
          · by_cases hyz:lt y z=true
            · exact .inl (h.tr _ _ _ hxy hyz)
            · have:=h.eq y z (by simpa using hyz) h3;subst this;exact .inl hxy
          · have:=h.eq x y (by simpa using hxy) h1;subst this;by_cases hyz:lt x z=true
            · exact .inl hyz
            · exact .inr ⟨h3,ih _ _ h2 h4⟩
 · intro a
   induction a with
   | nil=>
    intro b h1 h2
    cases b with
    | nil=>rfl
    | cons y t=>simp[lexLt] at h1
   | cons x s ih=>
    intro b h1 h2
    cases b with
    | nil=>simp[lexLt] at h2
    | cons y t=>
     unfold lexLt at h1 h2;simp only[Bool.or_eq_false_iff,Bool.and_eq_false_iff,Bool.not_eq_false'] at h1 h2;obtain⟨a1,a2⟩:=h1;obtain⟨b1,b2⟩:=h2;have:=h.eq x y a1 b1;subst this;rw[h.irr] at a2 b2;rw[ih t (by simpa using a2) (by simpa using b2)]
abbrev Ris {α:Type} (lt:α→α→Bool) (l:List α):Prop:=l.Pairwise (fun a b=>lt a b=true)
theorem ris_ext {α:Type} {lt:α→α→Bool} (h:TO lt):∀(l m:List α),Ris lt l→Ris lt m→(∀x,x∈l↔x∈m)→l=m
 | [],[],_,_,_=>rfl
 | [],y::m,_,_,hm=>by have:=(hm y).2 (by simp);cases this
 | x::l,[],_,_,hm=>by have:=(hm x).1 (by simp);cases this
 | x::l,y::m,hl,hr,hm=>by
  rw[Ris,List.pairwise_cons] at hl hr;have e:x=y:=by
   have h1:x∈y::m:=(hm x).1 (by simp);have h2:y∈x::l:=(hm y).2 (by simp);rcases List.mem_cons.1 h1 with e | h1
   · exact e
   rcases List.mem_cons.1 h2 with e | h2
   · exact e.symm
   have:=h.asym (hr.1 _ h1);rw[hl.1 _ h2] at this
   cases this
  subst e;rw[ris_ext h l m hl.2 hr.2 (fun z=>by
    constructor
    · intro hz;rcases List.mem_cons.1 ((hm z).1 (by simp[hz])) with e | h1
      · subst e;have:=hl.1 _ hz;rw[h.irr] at this;cases this
      · exact h1
    · intro hz;rcases List.mem_cons.1 ((hm z).2 (by simp[hz])) with e | h1
      · subst e;have:=hr.1 _ hz;rw[h.irr] at this;cases this
      · exact h1)]
def ins {α:Type} (lt:α→α→Bool) (x:α):List α→List α
 | []=>[x]
 | y::t=>if lt x y then x::y::t else if lt y x then y::ins lt x t else y::t
def uni {α:Type} (lt:α→α→Bool) (o l:List α):List α:=l.foldl (fun o x=>ins lt x o) o
theorem ins_mem {α:Type} {lt:α→α→Bool} (h:TO lt) (x z:α):∀l:List α,z∈ins lt x l↔z=x∨z∈l
 | []=>by simp[ins]
 | y::t=>by
  unfold ins;split
  · simp
  · split
    · rw[List.mem_cons,ins_mem h x z t,List.mem_cons];constructor
      · rintro(e | e | e)
        · exact .inr (.inl e)
        · exact .inl e
        · exact .inr (.inr e)
      · rintro(e | e | e)
        · exact .inr (.inl e)
        · exact .inl e
        · exact .inr (.inr e)
    · have e:=h.eq x y (by simp_all) (by simp_all);subst e;simp
theorem ins_ris {α:Type} {lt:α→α→Bool} (h:TO lt) (x:α):∀l:List α,Ris lt l→Ris lt (ins lt x l)
 | [],_=>by simp[ins]
 | y::t,hl=>by
  have hl':=List.pairwise_cons.1 hl;unfold ins;split
  · rename_i h1
    refine List.pairwise_cons.2 ⟨fun z hz=> ?_,hl⟩;rcases List.mem_cons.1 hz with e | e
    · subst e;exact h1
    · exact h.tr _ _ _ h1 (hl'.1 _ e)
  · split
    · rename_i h2
      refine List.pairwise_cons.2 ⟨fun z hz=> ?_,ins_ris h x t hl'.2⟩;rcases(ins_mem h x z t).1 hz with e | e
      · subst e;exact h2
      · exact hl'.1 _ e
    · exact hl
theorem uni_mem {α:Type} {lt:α→α→Bool} (h:TO lt) (z:α):∀(l o:List α),z∈uni lt o l↔z∈o∨z∈l
 | [],o=>by simp[uni]
 | x::l,o=>by
  have:=uni_mem h z l (ins lt x o);unfold uni at this⊢;rw[List.foldl_cons,this,ins_mem h];simp only[List.mem_cons];constructor
  · rintro((e | e) | e)
    · exact .inr (.inl e)
    · exact .inl e
    · exact .inr (.inr e)
  · rintro(e | e | e)
    · exact .inl (.inr e)
    · exact .inl (.inl e)
    · exact .inr e
theorem uni_ris {α:Type} {lt:α→α→Bool} (h:TO lt):∀(l o:List α),Ris lt o→Ris lt (uni lt o l)
 | [],o,ho=>ho
 | x::l,o,ho=>by unfold uni;rw[List.foldl_cons];exact uni_ris h l (ins lt x o) (ins_ris h x o ho)
theorem uni_eq {α:Type} {lt:α→α→Bool} (h:TO lt) {l m:List α} (hm:Ris lt m) (he:∀x,x∈m↔x∈l):m=uni lt [] l:=
 ris_ext h _ _ hm (uni_ris h l [] List.Pairwise.nil) (fun x=>by rw[uni_mem h,he];simp)
theorem ins_len {α:Type} {lt:α→α→Bool} (x:α):∀l:List α,(ins lt x l).length≤l.length+1
 | []=>by simp[ins]
 | y::t=>by
  unfold ins;split
  · simp
  · split
    · have:=@ins_len _ lt x t;simp only[List.length_cons];omega
    · simp
theorem uni_len {α:Type} {lt:α→α→Bool}:∀(l o:List α),(uni lt o l).length≤o.length+l.length
 | [],o=>by simp[uni]
 | x::l,o=>by
  have h1:=@uni_len _ lt l (ins lt x o);have h2:=@ins_len _ lt x o;unfold uni at h1⊢;rw[List.foldl_cons];simp only[List.length_cons];omega
def ltB (a b:UInt8):Bool:=decide (a<b)
theorem toB:TO ltB:=⟨fun a=>by simp[ltB],fun a b c h1 h2=>by simp only[ltB,decide_eq_true_eq] at *;exact UInt8.lt_trans h1 h2,fun a b h1 h2=>by
  simp only[ltB,decide_eq_false_iff_not,UInt8.lt_iff_toNat_lt] at*;exact UInt8.toNat.inj (by omega)⟩
def ltN:PStr→PStr→Bool:=lexLt ltB
theorem toN:TO ltN:=toB.lex
abbrev PAlt:=List PStr
def ltA:PAlt→PAlt→Bool:=lexLt ltN
theorem toA:TO ltA:=toN.lex
def pSet (l:List PStr):PAlt:=uni ltN [] l
def pEach (a b:List PAlt):List PAlt:=a.flatMap fun x=>b.map fun y=>pSet (x ++y)
def pN:PF→Int→List PAlt→Option (List PAlt)
 | .nil,_,acc=>some acc
 | .cons o n b k r,op,acc=>
  (if o=1 then some (if b then[[],[n]] else[[n]]) else(pN k o (if o=2 then[[]] else[])).bind fun out=>if out.length≤64 then some out else none).bind fun l=>
   if op=3 then pN r op (uni ltA acc l) else if 64<(uni ltA [] (pEach acc l)).length then none else pN r op (uni ltA [] (pEach acc l))
def pNorm (e:PE):Option (List PAlt):=
 if e.op=1 then some (if e.opt then[[],[e.nm]] else[[e.nm]]) else(pN e.kids e.op (if e.op=2 then[[]] else[])).bind fun out=>if out.length≤64 then some out else none
theorem pN_at {l : PF} {i : Nat} {k : PE} (h : l.at i = some k) (op : Int) (acc : List PAlt) : pN (l.from i) op acc = (pNorm k).bind fun m =>
    if op=3 then pN (l.from (i+1)) op (uni ltA acc m) else if 64<(uni ltA [] (pEach acc m)).length then none else pN (l.from (i+1)) op (uni ltA [] (pEach acc m)):=by
 rw[PF.from_at l i k h];rfl
structure AltsOk (m:Nat) (l:List PAlt):Prop where
 ris:Ris ltA l
 one:∀a∈l,Ris ltN a∧a.length≤m
theorem pSet_ris (l:List PStr):Ris ltN (pSet l):=uni_ris toN l [] List.Pairwise.nil
theorem pSet_len (l:List PStr):(pSet l).length≤l.length:=by have:=@uni_len _ ltN l [];simpa[pSet] using this
theorem each_mem {a b:List PAlt} {m k:Nat} (ha:∀x∈a,x.length≤m) (hb:∀x∈b,x.length≤k):∀x∈pEach a b,Ris ltN x∧x.length≤m+k:=by
 intro x hx;unfold pEach at hx;obtain⟨y,hy,hx⟩:=List.mem_flatMap.1 hx;obtain⟨z,hz,rfl⟩:=List.mem_map.1 hx;refine⟨pSet_ris _,Nat.le_trans (pSet_len _) ?_⟩;rw[List.length_append];have:=ha _ hy;have:=hb _ hz;omega
theorem one_ok (n:PStr) (b:Bool):AltsOk 1 (if b then[[],[n]] else[[n]]):=by
 cases b with
 | false=>exact⟨by simp,fun a ha=>by simp at ha;subst ha;simp⟩
 | true=>
  refine⟨by simp[ltA,lexLt],fun a ha=> ?_⟩;simp at ha;rcases ha with rfl | rfl<;>simp
theorem AltsOk.mono {m k:Nat} {l:List PAlt} (h:AltsOk m l) (hk:m≤k):AltsOk k l:=⟨h.ris,fun a ha=>⟨(h.one a ha).1,Nat.le_trans (h.one a ha).2 hk⟩⟩
theorem AltsOk.uni {m k:Nat} {o l:List PAlt} (h:AltsOk m o) (hl:∀a∈l,Ris ltN a∧a.length≤k) (hk:m≤k):AltsOk k (uni ltA o l):=
 ⟨uni_ris toA l o h.ris,fun a ha=>by
   rcases(uni_mem toA a l o).1 ha with h1 | h1
   · exact⟨(h.one a h1).1,Nat.le_trans (h.one a h1).2 hk⟩
   · exact hl a h1⟩
theorem AltsOk.nil (m:Nat):AltsOk m []:=⟨List.Pairwise.nil,fun a ha=>by cases ha⟩
theorem AltsOk.unit (m:Nat):AltsOk m [[]]:=⟨by simp,fun a ha=>by simp at ha;subst ha;simp⟩
theorem pN_ok:∀(f:PF) (op:Int) (m:Nat) (acc out:List PAlt),AltsOk m acc→pN f op acc=some out→AltsOk (m+f.sz) out
 | .nil,op,m,acc,out,h,he=>by
  unfold pN at he;injection he with he
  subst he;exact h.mono (by simp[PF.sz])
 | .cons o n b k r,op,m,acc,out,h,he=>by
  unfold pN at he;rw[show(PF.cons o n b k r).sz=k.sz+r.sz+1 from rfl];obtain⟨l,hl,he⟩:=Option.bind_eq_some_iff.1 he;have hok:AltsOk (k.sz+1) l:=by
   by_cases h1:o=1
   · rw[if_pos h1] at hl;injection hl with hl
     subst hl;exact(one_ok n b).mono (by omega)
   · rw[if_neg h1] at hl;obtain⟨o2,h2,h3⟩:=Option.bind_eq_some_iff.1 hl;split at h3
     · injection h3 with h3
       subst h3;have:=pN_ok k o 0 _ o2 (by split;exact AltsOk.unit 0;exact AltsOk.nil 0) h2;exact this.mono (by omega)
     · cases h3
  by_cases h3:op=3
  · rw[if_pos h3] at he;have:=pN_ok r op (m+(k.sz+1)) _ out (h.uni (fun a ha=>⟨(hok.one a ha).1,Nat.le_trans (hok.one a ha).2 (by omega)⟩) (by omega)) he;exact this.mono (by omega)
  · rw[if_neg h3] at he;split at he
    · cases he
    · have:=pN_ok r op (m+(k.sz+1)) _ out ((AltsOk.nil 0).uni (each_mem (fun x hx=>(h.one x hx).2) (fun x hx=>(hok.one x hx).2)) (by omega)) he;exact this.mono (by omega)
theorem pNorm_ok {e:PE} {l:List PAlt} (h:pNorm e=some l):AltsOk (e.kids.sz+1) l∧l.length≤64:=by
 unfold pNorm at h;by_cases h1:e.op=1
 · rw[if_pos h1] at h;injection h with h
   subst h;exact⟨(one_ok _ _).mono (by omega),by cases e.opt<;>simp⟩
 · rw[if_neg h1] at h;obtain⟨o2,h2,h3⟩:=Option.bind_eq_some_iff.1 h;split at h3
   · injection h3 with h3
     subst h3;have:=pN_ok _ _ 0 _ o2 (by split;exact AltsOk.unit 0;exact AltsOk.nil 0) h2;exact⟨this.mono (by omega),by assumption⟩
   · cases h3
open Go.Lib
theorem ltN_lt:∀a b:PStr,ltN a b=decide (a<b)
 | a,[]=>by simp[ltN,lexLt]
 | [],b::t=>by simp[ltN,lexLt]
 | a::s,b::t=>by
  have ih:=ltN_lt s t;unfold ltN at ih⊢;unfold lexLt;rw[ih];rw[show(decide (a::s<b::t))=decide (a<b∨a=b∧s<t) from by rw[decide_eq_decide];exact List.cons_lt_cons_iff];unfold ltB;by_cases h1:a<b
  · simp[h1]
  · by_cases h2:b<a
    · have:a≠b:=by rintro rfl;exact h1 h2
      simp[h1,h2,this]
    · have:=toB.eq a b (by simp[ltB,h1]) (by simp[ltB,h2]);subst this;simp[h1]
theorem leN_le (a b:PStr):(decide (a≤b))= !ltN b a:=by
 rw[ltN_lt];by_cases h:b<a
 · simp[h]
 · simp[h,List.not_lt.1 h]
theorem TO.tot {α:Type} {lt:α→α→Bool} (h:TO lt) (a b:α):(!lt b a || !lt a b)=true:=by
 cases h1:lt b a with
 | false=>rfl
 | true=>rw[h.asym h1];rfl
theorem TO.ltr {α:Type} {lt:α→α→Bool} (h:TO lt) (a b c:α) (h1:lt b a=false) (h2:lt c b=false):lt c a=false:=by
 cases h3:lt c a with
 | false=>rfl
 | true=>
  by_cases h4:lt a b=true
  · rw[h.tr _ _ _ h3 h4] at h2;cases h2
  · have:=h.eq a b (by simpa using h4) h1;subst this;rw[h3] at h2;cases h2
theorem sortN_ok (l:List PStr):(l.mergeSort fun x y=>decide (x≤y)).Pairwise (fun a b=>ltN b a=false)∧(l.mergeSort fun x y=>decide (x≤y)).Perm l:=by
 have e:(fun x y:PStr=>decide (x≤y))=fun x y=> !ltN y x:=by funext x y;exact leN_le x y
 rw[e];refine⟨?_,List.mergeSort_perm l _⟩;have:=List.pairwise_mergeSort (le:=fun x y:PStr=> !ltN y x) (fun a b c h1 h2=>by simp only[Bool.not_eq_true'] at *;exact toN.ltr a b c h1 h2) (fun a b=>toN.tot a b) l;exact this.imp (fun h=>by simpa using h)
section
variable {α:Type} [Inhabited α] [DecidableEq α] {lt:α→α→Bool}
theorem comp_ris (h : TO lt) (d : Array α) (hs : ∀ i j, i < j → j < d.size → lt d[j]! d[i]! = false) : ∀ m, m ≤ d.size →
    Ris lt (compactUpTo d m)∧(∀x,x∈compactUpTo d m↔∃j,j<m∧d[j]! =x)
 | 0,_=>⟨by simp[compactUpTo],fun x=>by simp[compactUpTo]⟩
 | m+1,hm=>by
  obtain⟨h1,h2⟩:=comp_ris h d hs m (by omega);rw[compactUpTo_succ]
  cases hk:keeps d m with
  | true=>
   simp only[if_true];refine⟨List.pairwise_append.2 ⟨h1,by simp,fun x hx y hy=> ?_⟩,fun x=> ?_⟩
   · obtain rfl:=List.mem_singleton.1 hy;obtain⟨j,hj,rfl⟩:=(h2 x).1 hx;have hm0:m≠0:=by omega
     have hne:d[m]! ≠d[m - 1]! :=by
      unfold keeps at hk;rcases of_decide_eq_true hk with e | e
      · exact absurd e hm0
      · exact e
     have a1:lt d[m]! d[m - 1]! =false:=hs (m - 1) m (by omega) (by omega);have a2:lt d[m - 1]! d[m]! =true:=by
      cases h3:lt d[m - 1]! d[m]! with
      | true=>rfl
      | false=>exact absurd (h.eq _ _ a1 h3) hne
     by_cases hjm:j=m - 1
     · rw[hjm];exact a2
     · have a3:lt d[m - 1]! d[j]! =false:=hs j (m - 1) (by omega) (by omega)
       cases h4:lt d[j]! d[m]! with
       | true=>rfl
       | false=>
        have:=h.ltr d[m]! d[j]! d[m - 1]! h4 a3;rw[a2] at this;cases this
   · rw[List.mem_append,h2];constructor
     · rintro(⟨j,hj,e⟩ | e)
       · exact⟨j,by omega,e⟩
       · exact⟨m,by omega,(List.mem_singleton.1 e).symm⟩
     · rintro⟨j,hj,e⟩;by_cases hjm:j=m
       · subst hjm;exact .inr (by simp[e])
       · exact .inl ⟨j,by omega,e⟩
  | false=>
   simp only[Bool.false_eq_true,if_false,List.append_nil];refine⟨h1,fun x=> ?_⟩;rw[h2];constructor
   · rintro⟨j,hj,e⟩;exact⟨j,by omega,e⟩
   · rintro⟨j,hj,e⟩;by_cases hjm:j=m
     · subst hjm;unfold keeps at hk;have hk':=of_decide_eq_false hk;have:j≠0∧d[j]! =d[j - 1]! :=⟨fun e=>hk' (.inl e),by
         cases Classical.em (d[j]! =d[j - 1]!) with
         | inl e=>exact e
         | inr e=>exact absurd (.inr e) hk'⟩
       exact⟨j - 1,by omega,this.2▸e⟩
     · exact⟨j,by omega,e⟩
end
theorem comp_set (l s:List PStr) (hp:s.Perm l) (hs:s.Pairwise (fun a b=>ltN b a=false)):compactUpTo s.toArray s.toArray.size=pSet l:=by
 have hi:∀i j,i<j→j<s.toArray.size→ltN s.toArray[j]! s.toArray[i]! =false:=fun i j hij hj=>by
  have hj':j<s.length:=by simpa using hj
  rw[getElem!_pos s.toArray j hj,getElem!_pos s.toArray i (by omega)];exact List.pairwise_iff_getElem.1 hs i j (by omega) hj' hij
 obtain⟨h1,h2⟩:=comp_ris toN s.toArray hi s.toArray.size (Nat.le_refl _);refine uni_eq toN h1 (fun x=> ?_);rw[h2,←hp.mem_iff];constructor
 · rintro⟨j,hj,rfl⟩;rw[getElem!_pos s.toArray j hj];simp
 · intro hx;obtain⟨j,hj,e⟩:=List.getElem_of_mem hx;exact⟨j,by simpa using hj,by rw[getElem!_pos s.toArray j (by simpa using hj)];simpa using e⟩
open Go.RowKit Go.Shelf
shelf_lay_g SlLaysE0.n41 Slgn 41 at Tryz 71 as shClone
shelf_lay_g SlLaysE.n43 Slgn 43 at Tryz 73 as shCompact
shelf_lay_g SlLaysE.n33 Slgn 33 at Tryz 83 as shEqualA
theorem infoStr:(Tryz.prog.info? 9).map (fun i=>(i.zero,i.size,i.bytes))=some (some (.string ⟨#[]⟩),1,16):=by kernel_rfl
abbrev AltV (B:Nat) (w:World) (v:Value) (s:PAlt):Prop:=w.ownsRow B 9 1 v s.length (s.map encStr)
theorem alt_nil {B:Nat} {w:World} {s:PAlt} (h:AltV B w (.slice none 0 0) s):s=[]:=by
 obtain⟨a,cap,hv⟩:=row_slice h;injection hv with _ hv _
 exact List.length_eq_zero_iff.1 hv.symm
theorem clone_of (B : Nat) (v : Value) (s : PAlt) (w : World) (h : AltV B w v s) (hl : s.length ≤ 1000) :
    Calls Tryz.prog 71 #[v] w (fun e w'=>∃v',e=.returned v'∧AltV w.heap.size w' v' s∧Below w.heap.size w w'):=by
 by_cases hv:v=.slice none 0 0
 · subst hv;obtain rfl:=alt_nil h;refine(AnyE.slices_Clone_nil shClone 0 0 w).mono ?_;rintro e w' ⟨rfl,rfl⟩;exact⟨_,rfl,World.ownsRow_nil _ _ _ _,Below.refl _ _⟩
 · obtain⟨g,cap,rfl,hg,hgl,hnc,hcm,hlen,hH⟩:=Lib.holds_of_ownsRow (enc:=encStr) h hv;obtain⟨i0,ei,ez,es,eb⟩:=info_parts infoStr;refine(AnyE.slices_Clone shClone i0 (.string ⟨#[]⟩) 1 16 ei ez es eb rfl (by decide) Tryz.sizeOf9 g 0 s.length cap (s.map encStr) w (by simp) (by unfold maxLen;omega) (by omega) (fun j u hu=> ?_) (fun u hu=> ?_)).mono ?_
   · rw[List.getElem?_map] at hu;obtain⟨x,hx,rfl⟩:=Option.map_eq_some_iff.1 hu;obtain⟨hj,he⟩:=List.getElem?_eq_some_iff.1 hx;have:=(hH j (by simpa using hj)).1;rw[this,getElem!_pos s.toArray j (by simpa using hj)];simp[he]
   · obtain⟨x,_,rfl⟩:=List.mem_map.1 hu;rfl
   · rintro e w' ⟨v',rfl,ho,_,hb⟩;exact⟨v',rfl,ho,hb⟩
theorem eqStrD (T:TypeId):EqlAt Tryz.prog T encStr (fun x y=>decide (x=y)):=by
 have h:=EqlAt.string Tryz.prog T;refine⟨fun x y w=> ?_,fun op a b x y w=>h.2 op a b _ _ w⟩;have:=h.1 ⟨x.toArray⟩ ⟨y.toArray⟩ w;rw[encStr,encStr,this];have e:((⟨x.toArray⟩:ByteArray).toList==(⟨y.toArray⟩:ByteArray).toList)=decide (x=y):=by rw[ByteArray.toList_eq,ByteArray.toList_eq,Bool.eq_iff_iff];simp
 dsimp only;rw[e]
theorem neStrD (T:TypeId):NeqAt Tryz.prog T encStr (fun x y=>decide (x=y)):=by
 have h:=NeqAt.string Tryz.prog T;refine⟨fun x y w=> ?_,fun op a b x y w=>h.2 op a b _ _ w⟩;have:=h.1 ⟨x.toArray⟩ ⟨y.toArray⟩ w;rw[encStr,encStr,this];have e:((⟨x.toArray⟩:ByteArray).toList==(⟨y.toArray⟩:ByteArray).toList)=decide (x=y):=by rw[ByteArray.toList_eq,ByteArray.toList_eq,Bool.eq_iff_iff];simp
 dsimp only;rw[e]
theorem compact_nil (w:World):Calls Tryz.prog 73 #[.slice none 0 0] w (fun e w'=>e=.returned (.slice none 0 0)∧w=w'):=by
 go_enter Tryz.func73,Tryz.ntmps73;go_wp2_with fail;go_ret;exact⟨rfl,rfl⟩
theorem compact_of (B : Nat) (v : Value) (n : Nat) (l s : PAlt) (w0 w : World) (h : w.ownsRow B 9 1 v n (s.map encStr)) (hl : n ≤ 1000) (hp : s.Perm l) (hs : s.Pairwise (fun a b => ltN b a = false)) (hb : Below w0.heap.size w0 w) (hB : w0.heap.size ≤ B) :
    Calls Tryz.prog 73 #[v] w (fun e w'=>∃v',e=.returned v'∧AltV B w' v' (pSet l)∧Below w0.heap.size w0 w'):=by
 have hln:s.length=n:=by simpa using h.1
 by_cases hv:v=.slice none 0 0
 · subst hv;obtain⟨a,cap,hv⟩:=row_slice h;injection hv with _ hv _
   subst hv;have hs0:=List.length_eq_zero_iff.1 hln;subst hs0;have:l=[]:=by simpa using hp.symm
   subst this;refine(compact_nil w).mono ?_;rintro e w' ⟨rfl,rfl⟩;exact⟨_,rfl,World.ownsRow_nil _ _ _ _,hb⟩
 · obtain⟨g,cap,rfl,hg,hgl,hnc,hcm,hlen,hH⟩:=Lib.holds_of_ownsRow (enc:=encStr) h hv;subst hlen;have hcs:=comp_set l s hp hs;have hsz:s.toArray.size=s.length:=by simp
   have hcp:=AnyE.slices_Compact shCompact encStr (fun _=>rfl) (eqStrD _) (neStrD _) [] Tryz.zeroValue9 g 0 cap s.toArray w hH (by omega) (by omega);rw[hcs,hsz] at hcp;have hle:(pSet l).length≤s.length:=by rw[hp.length_eq];exact pSet_len l
   refine hcp.mono ?_;rintro e w' ⟨rfl,q,rfl⟩;have ho:=Lib.ownsRow_putRow (q:=q) (ys:=pSet l ++List.replicate (s.length - (pSet l).length) []) (k:=(pSet l).length) h (by simp;omega) hle;rw[List.take_left' rfl] at ho;exact⟨_,rfl,ho,Lib.below_putRow hb (by omega)⟩
shelf_lay_g SlLaysM.n6 Slgm 6 at Tryz 72 as shSort
theorem nsort_of (B : Nat) (v : Value) (n : Nat) (s : PAlt) (w0 w : World) (h : w.ownsRow B 9 1 v n (s.map encStr)) (hl : n ≤ 1000) (hb : Below w0.heap.size w0 w) (hB : w0.heap.size ≤ B) :
    Calls Tryz.prog 72 #[v] w (fun e w'=>e=.returned (.tuple #[])∧w'.ownsRow B 9 1 v n ((s.mergeSort fun x y=>decide (x≤y)).map encStr)∧Below w0.heap.size w0 w'):=by
 have hln:s.length=n:=by simpa using h.1
 by_cases hv:v=.slice none 0 0
 · subst hv;obtain⟨a,cap,hv⟩:=row_slice h;injection hv with _ hv _
   subst hv;have hs:=List.length_eq_zero_iff.1 hln;subst hs;refine(AnyM.slices_Sort_string_none shSort none 0 w).mono ?_;rintro e w' ⟨rfl,rfl⟩;exact⟨rfl,by simpa using h,hb⟩
 · obtain⟨g,cap,rfl,hg,hgl,hnc,hcm,hlen,hH⟩:=Lib.holds_of_ownsRow (enc:=encStr) h hv;subst hlen;refine(AnyM.slices_Sort_string shSort g 0 cap s w hH hgl (by omega)).mono ?_;rintro e w' ⟨rfl,q,os,rfl⟩;have ho:=Lib.ownsRow_putRow (q:=q) (ys:=s.mergeSort fun x y=>decide (x≤y)) (k:=s.length) h (by simp) (Nat.le_refl _);rw[List.take_of_length_le (by simp)] at ho
   have hb1:=Lib.below_putRow (enc:=encStr) (q:=q) (d:=(s.mergeSort fun x y=>decide (x≤y)).toArray) hb (g:=g) (by omega);refine⟨rfl,row_heap ho (fun k hk=>Sort.heap_grow_old _ _ (ho.lt k hk).2),⟨hb1.os,hb1.tape,hb1.output,Nat.le_trans hb1.size (by rw[Sort.size_grow];exact Nat.le_add_right _ _),fun k hk=>(Sort.heap_grow_old _ _ (Nat.lt_of_lt_of_le hk hb1.size)).trans (hb1.block k hk)⟩⟩
theorem union_of (Ba Bb : Nat) (va vb : Value) (sa sb : PAlt) (w : World) (ha : AltV Ba w va sa) (hb : AltV Bb w vb sb) (hla : sa.length ≤ 400) (hlb : sb.length ≤ 400) :
    Calls Tryz.prog 46 #[va,vb] w (fun e w'=>∃v',e=.returned v'∧AltV w.heap.size w' v' (pSet (sa ++sb))∧Below w.heap.size w w'):=by
 obtain⟨i0,ei,ez,es,eb⟩:=info_parts infoStr;have HCL:=qq (clone_of Ba va sa w ha (by omega));have HB2:=qq hb;have hone:∀u∈sb.map encStr,u.oneCell'=true:=fun u hu=>by
  obtain⟨x,_,rfl⟩:=List.mem_map.1 hu;rfl
 obtain⟨a2,c2,rfl⟩:=row_slice hb;obtain⟨a1,c1,rfl⟩:=row_slice ha;obtain⟨na,hna⟩:∃x,x=sa.length:=⟨_,rfl⟩
 obtain⟨nb,hnb⟩:∃x,x=sb.length:=⟨_,rfl⟩
 rw[←hna] at HCL hla⊢;rw[←hnb] at HB2 hlb⊢;have HS:=qq (sortN_ok (sa ++sb));have HNA:=qq hna;have HNB:=qq hnb;clear ha hb hna hnb;go_enter Tryz.func46,Tryz.ntmps46;go_wp2_with fail;refine HCL.out.mono ?_;rintro e w1 ⟨v1,rfl,ho1,hb1⟩;have HO1:=qq ho1;have HB1:=qq hb1;have HR2:=qq (row_be HB2.out hb1);obtain⟨a3,c3,rfl⟩:=row_slice ho1;clear ho1 hb1
 go_wp2_with (at_builtin;refine wpList_append_rows rfl _ _ 71 rfl w.heap.size 9 i0 (.string ⟨#[]⟩) 1 16 Tryz.underlying71 ei ez es eb rfl (by decide) _ _ _ rfl HO1.out Bb _ _ _ rfl HR2.out hone ?c1 ?c2 ?c3 ?_)
 case c1=>have:=HNA.out;have:=HNB.out;unfold maxLen;omega
 case c2=>have:=HNA.out;have:=HNB.out;omega
 case c3=>exact HB1.out.size
 intro v3 w3 hown hgrow hat;obtain⟨ua,uc,hu⟩:=row_slice hown;subst hu;obtain⟨n3,hn3⟩:∃x,x=sa.length+sb.length:=⟨_,rfl⟩
 rw[←hn3] at hown⊢;have hn3':n3≤1000:=by have:=HNA.out;have:=HNB.out;omega
 have HO:=qq (show w3.ownsRow w.heap.size 9 1 (.slice ua n3 uc) n3 ((sa ++sb).map encStr) from by rw[List.map_append];exact hown);have HB:=qq (HB1.out.grown hgrow HB1.out.size (fun j hj=>(HO1.out.lt j hj).1));clear hown hgrow hat hn3;go_wp2_with fail;refine(nsort_of w.heap.size _ n3 (sa ++sb) w w3 HO.out hn3' HB.out (Nat.le_refl _)).mono ?_;rintro e w4 ⟨rfl,ho4,hb4⟩
 have HO4:=qq ho4;have HB4:=qq hb4;clear ho4 hb4;go_wp2_with fail;refine(compact_of w.heap.size _ n3 (sa ++sb) _ w w4 HO4.out hn3' HS.out.2 HS.out.1 HB4.out (Nat.le_refl _)).mono ?_;rintro e w5 ⟨v5,rfl,ho5,hb5⟩;have HO5:=qq ho5;obtain⟨a5,c5,rfl⟩:=row_slice ho5;clear ho5;go_wp2_with fail;go_ret;exact⟨_,rfl,HO5.out,hb5⟩
def cmpT {α:Type} (lt:α→α→Bool) (a b:α):Int:=if lt a b then -1 else if lt b a then 1 else 0
theorem less_lt:∀a b:PStr,Op.bytesLess a b=ltN a b
 | a,[]=>by cases a<;>rfl
 | [],b::t=>by rfl
 | a::s,b::t=>by
  have ih:=less_lt s t;unfold ltN at ih⊢;unfold lexLt Op.bytesLess;rw[ih];unfold ltB;by_cases h1:a<b
  · simp[h1]
  · by_cases h2:b<a
    · have:a≠b:=by rintro rfl;exact h1 h2
      simp[h1,h2,this]
    · have:=toB.eq a b (by simp[ltB,h1]) (by simp[ltB,h2]);subst this;simp[h1]
theorem str_lss (a b:PStr) (T:TypeId) (w:World):(binOp .lss T (encStr a) (encStr b)).run Tryz.prog w=.ok (.bool (ltN a b)) w:=by
 rw[←less_lt];simp[encStr,binOp,Op.stringOp,ByteArray.toList_eq]
theorem str_gtr (a b:PStr) (T:TypeId) (w:World):(binOp .gtr T (encStr a) (encStr b)).run Tryz.prog w=.ok (.bool (ltN b a)) w:=by
 have e:(!(Op.bytesLess a b || a==b))=ltN b a:=by
  rw[less_lt];by_cases h1:ltN a b=true
  · rw[h1,toN.asym h1];rfl
  · have h1':ltN a b=false:=by simpa using h1
    rw[h1'];by_cases h2:a=b
    · subst h2;simp[h1']
    · have h3:ltN b a=true:=by
       cases h4:ltN b a with
       | true=>rfl
       | false=>exact absurd (toN.eq a b h1' h4) h2
      simp[h2,h3]
 rw[←e];simp[encStr,binOp,Op.stringOp,ByteArray.toList_eq]
theorem isNaN_of (a:PStr) (w:World):Calls Tryz.prog 114 #[encStr a] w (fun e w'=>e=.returned (.bool false)∧w=w'):=by
 have hne:∀(x y:PStr) (w:World),Sem.run Tryz.prog (binOp .neq 9 (encStr x) (encStr y)) w=.ok (.bool (!decide (x=y))) w:=(neStrD 9).1;have hgd:∀(op:BinOp) (a b:Operand) (x y:PStr) (w:World),Sem.run Tryz.prog (eqGuard op 9 a b (encStr x) (encStr y)) w=.ok () w:=(neStrD 9).2;go_enter Tryz.func114,Tryz.ntmps114;go_wp2_with fail;go_ret;exact⟨by simp,rfl⟩
theorem cmpStr_of (a b:PStr) (w:World):Calls Tryz.prog 91 #[encStr a,encStr b] w (fun e w'=>e=.returned (.int .i64 (cmpT ltN a b))∧w=w'):=by
 have hl:∀(w:World),Sem.run Tryz.prog (binOp .lss 9 (encStr a) (encStr b)) w=.ok (.bool (ltN a b)) w:=str_lss a b _;have hg:∀(w:World),Sem.run Tryz.prog (binOp .gtr 9 (encStr a) (encStr b)) w=.ok (.bool (ltN b a)) w:=str_gtr a b _;unfold cmpT;generalize ltN a b=p at*;generalize ltN b a=q at*;have hn1:=isNaN_of a;have hn2:=isNaN_of b;generalize encStr a=va at*;generalize encStr b=vb at*
 have N1:=qq hn1;have N2:=qq hn2;clear hn1 hn2
 cases p<;>cases q
 all_goals
  go_enter Tryz.func91,Tryz.ntmps91;go_wp2_with fail;refine(N1.out _).mono ?_;rintro e w1 ⟨rfl,rfl⟩;go_wp2_with fail;refine(N2.out _).mono ?_;rintro e w1 ⟨rfl,rfl⟩;go_wp2_with fail;go_ret;exact⟨rfl,rfl⟩
theorem lex_skip {α:Type} {lt:α→α→Bool} (h:TO lt):∀(p s t:List α),lexLt lt (p ++s) (p ++t)=lexLt lt s t
 | [],s,t=>rfl
 | x::p,s,t=>by
  rw[List.cons_append,List.cons_append]
  conv=>lhs;unfold lexLt
  rw[h.irr,lex_skip h p s t];rfl
theorem cmp_skip (p s t:PAlt):cmpT ltA (p ++s) (p ++t)=cmpT ltA s t:=by
 unfold cmpT ltA;rw[lex_skip toN,lex_skip toN]
theorem cmp_cons (a b:PStr) (s t:PAlt) (h:a≠b):cmpT ltA (a::s) (b::t)=cmpT ltN a b∧cmpT ltN a b≠0:=by
 unfold cmpT ltA;unfold lexLt;by_cases h1:ltN a b=true
 · simp[h1]
 · have h1':ltN a b=false:=by simpa using h1
   have h2:ltN b a=true:=by
    cases h3:ltN b a with
    | true=>rfl
    | false=>exact absurd (toN.eq a b h1' h3) h
   simp[h1',h2]
theorem cmp_same (a:PStr):cmpT ltN a a=0:=by unfold cmpT;rw[toN.irr];rfl
theorem alt_cell {B:Nat} {w:World} {v:Value} {s:PAlt} (h:AltV B w v s):∃a c,v=.slice a s.length c∧(∀i x,s[i]? =some x→∃b,a=some ⟨b,0,none⟩∧w.cell? ⟨b,i,none⟩=some (encStr x)∧b<w.heap.size∧s.length≤c):=by
 rcases Nat.eq_zero_or_pos s.length with h0 | h0
 · obtain⟨a,c,rfl⟩:=row_slice h;have:=List.length_eq_zero_iff.1 h0;subst this;exact⟨a,c,rfl,fun i x hx=>by simp at hx⟩
 · obtain⟨g,cap,rfl,hc,_,hg,hcell,_⟩:=row_form h h0;exact⟨_,_,rfl,fun i x hx=>⟨g,rfl,hcell i _ (by rw[List.getElem?_map,hx];rfl),hg,hc⟩⟩
theorem compareA_of (Ba Bb : Nat) (va vb : Value) (sa sb : PAlt) (w : World) (ha : AltV Ba w va sa) (hb : AltV Bb w vb sb) (hla : sa.length ≤ 1000) (hlb : sb.length ≤ 1000) :
    Calls Tryz.prog 80 #[va,vb] w (fun e w'=>e=.returned (.int .i64 (cmpT ltA sa sb))∧w=w'):=by
 obtain⟨aa,ca,rfl,hca⟩:=alt_cell ha;obtain⟨ab,cb,rfl,hcb⟩:=alt_cell hb;have HA:=qq hca;have HB:=qq hcb;have HC:=qq cmpStr_of;obtain⟨na,hna⟩:∃x,x=sa.length:=⟨_,rfl⟩
 obtain⟨nb,hnb⟩:∃x,x=sb.length:=⟨_,rfl⟩
 rw[←hna] at hla⊢;rw[←hnb] at hlb⊢;rw[←hna] at HA;rw[←hnb] at HB;have HNA:=qq hna;have HNB:=qq hnb;obtain⟨r,hr⟩:∃x,x=cmpT ltA sa sb:=⟨_,rfl⟩
 have HR:=qq hr;rw[←hr];clear ha hb hca hcb hna hnb hr;go_enter Tryz.func80,Tryz.ntmps80;go_wp2_with fail;go_loopw [11] (fun cc wr=>∃i:Nat,i≤na∧i≤nb∧cc=.int .i64 (i:Int)∧wr=w∧Hid (sa.take i=sb.take i)) (fun cc _=>na - (intOf cc).toNat)
 case atStart=>exact⟨0,by omega,by omega,by first | rfl | go_num,by first | rfl | exact True.intro,qq rfl⟩
 case round=>
  obtain⟨i,hia,hib,rfl,rfl,HP⟩:=hrel;have hi0:(0:Int)≤(i:Int):=by omega
  have HSA:Hid (sa=sa.take i ++sa.drop i):=qq (List.take_append_drop i sa).symm;have HSB:Hid (sb=sa.take i ++sb.drop i):=qq (by rw[HP.out];exact(List.take_append_drop i sb).symm);have HRD:Hid (r=cmpT ltA (sa.drop i) (sb.drop i)):=qq (by
    rw[HR.out]
    conv=>lhs;rw[HSA.out,HSB.out]
    exact cmp_skip _ _ _)
  by_cases hlt:i<na
  · have hi1:(i:Int)<(na:Int):=by omega
    obtain⟨x,hx⟩:∃x,sa[i]? =some x:=⟨_,List.getElem?_eq_getElem (by rw[←HNA.out];exact hlt)⟩
    obtain⟨ba,rfl,cx,hbl,hcc⟩:=HA.out i x hx;by_cases hlb2:i<nb
    · have hi2:(i:Int)<(nb:Int):=by omega
      obtain⟨y,hy⟩:∃x,sb[i]? =some x:=⟨_,List.getElem?_eq_getElem (by rw[←HNB.out];exact hlb2)⟩
      obtain⟨bb,rfl,cy,hbl2,hcc2⟩:=HB.out i y hy;have HDA:Hid (sa.drop i=x::sa.drop (i+1)):=qq (by
        obtain⟨h1,h2⟩:=List.getElem?_eq_some_iff.1 hx;rw[List.drop_eq_getElem_cons h1,h2])
      have HDB:Hid (sb.drop i=y::sb.drop (i+1)):=qq (by
        obtain⟨h1,h2⟩:=List.getElem?_eq_some_iff.1 hy;rw[List.drop_eq_getElem_cons h1,h2])
      have HCX:=qq (HC.out x y);have HTK:Hid (x=y→sa.take (i+1)=sb.take (i+1)):=qq (fun e=>by
        subst e;rw[List.take_add_one,List.take_add_one,HP.out,hx,hy])
      by_cases hxy:x=y
      · have hz:cmpT ltN x y=0:=by rw[hxy];exact cmp_same y
        rw[hz] at HCX;have HT2:=qq (HTK.out hxy);clear hx hy hz hxy hlt;generalize encStr x=vx at*;generalize encStr y=vy at*;go_wp2_with fail;refine(HCX.out _).mono ?_;rintro e w2 ⟨rfl,rfl⟩;go_wp2_with fail;go_roundw
        case rel=>exact⟨i+1,by omega,by omega,by go_num,by first | rfl | exact True.intro,HT2⟩
        case measure=>simp[intOf];omega
      · have HF:Hid (r=cmpT ltN x y∧cmpT ltN x y≠0):=qq (by
          have:=cmp_cons x y (sa.drop (i+1)) (sb.drop (i+1)) hxy;rw[←HDA.out,←HDB.out,←HRD.out] at this;exact this)
        obtain⟨q,hq⟩:∃q,q=cmpT ltN x y:=⟨_,rfl⟩
        rw[←hq] at HCX HF;have hq0:q≠0:=HF.out.2;have hqr:r=q:=HF.out.1;subst hqr;clear hx hy hq hxy hlt HF HR HRD;generalize encStr x=vx at*;generalize encStr y=vy at*;go_wp2_with fail;refine(HCX.out _).mono ?_;rintro e w2 ⟨rfl,rfl⟩;go_wp2_with fail;go_ret;exact⟨rfl,rfl⟩
    · obtain rfl:nb=i:=by omega
      have hfin:r=1:=by
       rw[HRD.out,show sb.drop nb=[] from List.drop_eq_nil_of_le (by rw[←HNB.out];exact Nat.le_refl _)];obtain⟨h1,h2⟩:=List.getElem?_eq_some_iff.1 hx;rw[List.drop_eq_getElem_cons h1];rfl
      subst hfin;clear hx hlt HR HRD;generalize encStr x=vx at*;go_wp2_with fail;go_ret;exact⟨rfl,rfl⟩
  · obtain rfl:na=i:=by omega
    have hda:sa.drop na=[]:=List.drop_eq_nil_of_le (by rw[←HNA.out];exact Nat.le_refl _);by_cases hlb2:na<nb
    · have hi2:(na:Int)<(nb:Int):=by omega
      have hfin:r= -1:=by
       rw[HRD.out,hda];rw[List.drop_eq_getElem_cons (by rw[←HNB.out];exact hlb2)];rfl
      subst hfin;clear hlt HR HRD hda;go_wp2_with fail;go_ret;exact⟨rfl,rfl⟩
    · obtain rfl:nb=na:=by omega
      have hfin:r=0:=by
       rw[HRD.out,hda,show sb.drop nb=[] from List.drop_eq_nil_of_le (by rw[←HNB.out];exact Nat.le_refl _)];rfl
      subst hfin;clear hlt HR HRD hda;go_wp2_with fail;go_ret;exact⟨rfl,rfl⟩
end Go.Proofs.YtbepkpjcjpmpmaaGreatDoor
