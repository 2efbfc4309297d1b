/- DnB, DnC -/
import Derived.Test.YtbepkpjcjpmpmaaGreatDoorAPolLToDnA
set_option linter.unusedSimpArgs false
set_option linter.unusedVariables false
set_option maxRecDepth 100000
set_option maxHeartbeats 16000000
namespace Go.Proofs.YtbepkpjcjpmpmaaGreatDoor
open Go.RowKit Go.Shelf
def rCmp:PAlt→PAlt→Int
 | [],t=>0 - (t.length:Int)
 | x::s,[]=>((x::s).length:Int)
 | x::s,y::t=>if ltN x y then -1 else if ltN y x then 1 else rCmp s t
theorem rCmp_lt:∀a b:PAlt,(rCmp a b<0↔ltA a b=true)∧(rCmp a b=0↔a=b)
 | [],[]=>by simp[rCmp,ltA,lexLt]
 | [],y::t=>by
  constructor
  · simp[rCmp,ltA,lexLt];(try omega)
  · simp[rCmp];(try omega)
 | x::s,[]=>by
  constructor
  · simp[rCmp,ltA,lexLt];(try omega)
  · simp[rCmp];(try omega)
 | x::s,y::t=>by
  obtain⟨h1,h2⟩:=rCmp_lt s t;unfold ltA at h1⊢;rw[rCmp,lexLt];by_cases h:ltN x y=true
  · have hn:=toN.asym h;rw[if_pos h,h];constructor
    · simp
    · constructor
      · intro e;omega
      · intro e;injection e with e1 e2;subst e1;rw[toN.irr] at h;cases h
  · have h':ltN x y=false:=by simpa using h
    rw[if_neg h,h'];by_cases k:ltN y x=true
    · rw[if_pos k,k];constructor
      · simp
      · constructor
        · intro e;omega
        · intro e;injection e with e1 e2;subst e1;rw[toN.irr] at k;cases k
    · have k':ltN y x=false:=by simpa using k
      have e:=toN.eq x y h' k';subst e;rw[if_neg k,k'];constructor
      · simpa using h1
      · rw[h2];simp
theorem rCmp_at {a b:PAlt} {i:Nat} {x y:PStr} (ha:a[i]? =some x) (hb:b[i]? =some y):rCmp (a.drop i) (b.drop i)=if ltN x y then -1 else if ltN y x then 1 else rCmp (a.drop (i+1)) (b.drop (i+1)):=by
 obtain⟨h1,e1⟩:=List.getElem?_eq_some_iff.1 ha;obtain⟨h2,e2⟩:=List.getElem?_eq_some_iff.1 hb;rw[List.drop_eq_getElem_cons h1,List.drop_eq_getElem_cons h2,e1,e2,rCmp]
theorem rCmp_end {a b:PAlt} {i:Nat} (h:a.length≤i∨b.length≤i) (ha:i≤a.length) (hb:i≤b.length):rCmp (a.drop i) (b.drop i)=(a.length:Int) - (b.length:Int):=by
 rcases h with h | h
 · rw[List.drop_eq_nil_of_le h,rCmp,List.length_drop];omega
 · rw[List.drop_eq_nil_of_le h]
   cases hq:a.drop i with
   | nil=>have:=congrArg List.length hq;simp at this;simp[rCmp];omega
   | cons x s=>have:=congrArg List.length hq;rw[List.length_drop] at this;rw[rCmp,←this];omega
theorem rcompare_of (Ba Bb : Nat) (va vb : Value) (sa sb : PAlt) (w : World) (ha : AltV Ba w va sa) (hb : AltV Bb w vb sb) (hla : sa.length ≤ 1000) (hlb : sb.length ≤ 1000) :
    Calls Tryz.prog 47 #[va,vb] w (Makes (.int .i64 (rCmp sa sb)) w):=by
 have HA:=qq (fun W (hW:Below w.heap.size w W)=>alt_cell (row_be ha hW));have HB:=qq (fun W (hW:Below w.heap.size w W)=>alt_cell (row_be hb hW));obtain⟨aa,ca,rfl,_⟩:=alt_cell ha;obtain⟨ab,cb,rfl,_⟩:=alt_cell hb;obtain⟨na,hna⟩:∃n,n=sa.length:=⟨_,rfl⟩
 obtain⟨nb,hnb⟩:∃n,n=sb.length:=⟨_,rfl⟩
 have HNA:=qq hna;have HNB:=qq hnb;rw[←hna] at hla⊢;rw[←hnb] at hlb⊢;have HRES:Hid (∀r w',rCmp sa sb=r→Below w.heap.size w w'→Makes (.int .i64 (rCmp sa sb)) w (.returned (.int .i64 r)) w'):=qq (fun r w' h1 h2=>⟨by rw[h1],h2⟩);generalize Makes (.int .i64 (rCmp sa sb)) w=R at HRES⊢;clear ha hb hna hnb;go_enter Tryz.func47,Tryz.ntmps47;go_wp2_with fail
 go_loopw [5] (fun cc wr=>∃i:Nat,i≤na∧i≤nb∧cc=.int .i64 (i:Int)∧Hid (rCmp sa sb=rCmp (sa.drop i) (sb.drop i))∧Hid (Below w.heap.size w wr)) (fun cc _=>na - (intOf cc).toNat)
 case atStart=>exact⟨0,by omega,by omega,by first | rfl | go_num,qq rfl,qq (Below.refl _ _)⟩
 case round=>
  obtain⟨i,hia,hib,rfl,HC,HBE⟩:=hrel;have hi0:(0:Int)≤(i:Int):=by omega
  by_cases hla1:i<na
  · have h1:(i:Int)<(na:Int):=by omega
    by_cases hlb1:i<nb
    · have h2:(i:Int)<(nb:Int):=by omega
      obtain⟨x,hx⟩:∃x,sa[i]? =some x:=⟨_,List.getElem?_eq_getElem (by rw[←HNA.out];exact hla1)⟩
      obtain⟨y,hy⟩:∃y,sb[i]? =some y:=⟨_,List.getElem?_eq_getElem (by rw[←HNB.out];exact hlb1)⟩
      obtain⟨_,_,ea,hca⟩:=HA.out _ HBE.out;injection ea with ea1 _ ea2
      subst ea1 ea2;obtain⟨ga,rfl,cA,lA,kA⟩:=hca i x hx;obtain⟨_,_,eb,hcb⟩:=HB.out _ HBE.out;injection eb with eb1 _ eb2
      subst eb1 eb2;obtain⟨gb,rfl,cB,lB,kB⟩:=hcb i y hy;have HC2:=qq (HC.out.trans (rCmp_at hx hy));rw[←HNA.out] at kA;rw[←HNB.out] at kB;have HLS:=qq (less_lt x y);have HGT:Hid (ltN x y=false→(x==y)= !ltN y x):=qq (fun h=>by
        cases k:ltN y x with
        | true=>simp;rintro rfl;rw[h] at k;cases k
        | false=>have:=toN.eq x y h k;subst this;simp)
      clear hca hcb hx hy hla1 hlb1
      cases hxy:ltN x y with
      | true=>
       rw[hxy] at HLS;have HF:=qq (fun w' hw=>HRES.out (-1) w' (by rw[HC2.out,hxy];rfl) hw);go_wp2_with fail;have qLS:=HLS.out;refine reg_start (fun w'=>w'=wr.drew) (by kernel_rfl) rfl ?_;rintro w1 hHeld;refine takeM (d:=some 18) 0 rfl rfl hHeld (fun w' hS'=>by subst hS';go_simp;(try rfl)) ?_;simp only[puts];refine takeM (d:=some 19) 1 rfl rfl hHeld (fun w' hS'=>by subst hS';go_simp;(try rfl)) ?_
       simp only[puts];refine takeM (d:=some 20) 2 rfl rfl hHeld (fun w' hS'=>by subst hS';go_simp;(try rfl)) ?_;simp only[puts];refine takeM (d:=some 21) 3 rfl rfl hHeld (fun w' hS'=>by subst hS';have qc:=cA;go_simp;(try rfl)) ?_;simp only[puts];refine takeM (d:=some 22) 4 rfl rfl hHeld (fun w' hS'=>by subst hS';go_simp;(try rfl)) ?_;simp only[puts]
       refine takeM (d:=some 23) 5 rfl rfl hHeld (fun w' hS'=>by subst hS';go_simp;(try rfl)) ?_;simp only[puts];refine takeM (d:=some 24) 6 rfl rfl hHeld (fun w' hS'=>by subst hS';go_simp;(try rfl)) ?_;simp only[puts];refine takeM (d:=some 25) 7 rfl rfl hHeld (fun w' hS'=>by subst hS';have qc:=cB;go_simp;(try rfl)) ?_;simp only[puts]
       refine takeM (d:=some 26) 8 rfl rfl hHeld (fun w' hS'=>by subst hS';have qc:=qLS;go_simp;(try rfl)) ?_;simp only[puts];refine doneM (by kernel_rfl) ?_ _;subst hHeld;clear cA cB qLS;go_wp2_with fail
       (try go_ret)
       exact HF.out _ (bel_drew HBE.out)
      | false=>
       rw[hxy] at HLS
       cases hyx:ltN y x with
       | true=>
        have HGT2:Hid ((x==y)=false):=qq (by rw[HGT.out hxy,hyx];rfl);have HF:=qq (fun w' hw=>HRES.out 1 w' (by rw[HC2.out,hxy,hyx];rfl) hw);go_wp2_with fail;have qLS:=HLS.out;refine reg_start (fun w'=>w'=wr.drew) (by kernel_rfl) rfl ?_;rintro w1 hHeld;refine takeM (d:=some 18) 0 rfl rfl hHeld (fun w' hS'=>by subst hS';go_simp;(try rfl)) ?_;simp only[puts]
        refine takeM (d:=some 19) 1 rfl rfl hHeld (fun w' hS'=>by subst hS';go_simp;(try rfl)) ?_;simp only[puts];refine takeM (d:=some 20) 2 rfl rfl hHeld (fun w' hS'=>by subst hS';go_simp;(try rfl)) ?_;simp only[puts];refine takeM (d:=some 21) 3 rfl rfl hHeld (fun w' hS'=>by subst hS';have qc:=cA;go_simp;(try rfl)) ?_;simp only[puts]
        refine takeM (d:=some 22) 4 rfl rfl hHeld (fun w' hS'=>by subst hS';go_simp;(try rfl)) ?_;simp only[puts];refine takeM (d:=some 23) 5 rfl rfl hHeld (fun w' hS'=>by subst hS';go_simp;(try rfl)) ?_;simp only[puts];refine takeM (d:=some 24) 6 rfl rfl hHeld (fun w' hS'=>by subst hS';go_simp;(try rfl)) ?_;simp only[puts]
        refine takeM (d:=some 25) 7 rfl rfl hHeld (fun w' hS'=>by subst hS';have qc:=cB;go_simp;(try rfl)) ?_;simp only[puts];refine takeM (d:=some 26) 8 rfl rfl hHeld (fun w' hS'=>by subst hS';have qc:=qLS;go_simp;(try rfl)) ?_;simp only[puts];refine doneM (by kernel_rfl) ?_ _;subst hHeld;clear qLS;go_wp2_with fail;have qGT:=HGT2.out;have qLS:=HLS.out
        refine reg_start (fun w'=>w'=wr.drew.drew) (by kernel_rfl) rfl ?_;rintro w1 hHeld;refine takeM (d:=some 27) 0 rfl rfl hHeld (fun w' hS'=>by subst hS';go_simp;(try rfl)) ?_;simp only[puts];refine takeM (d:=some 28) 1 rfl rfl hHeld (fun w' hS'=>by subst hS';go_simp;(try rfl)) ?_;simp only[puts];refine takeM (d:=some 29) 2 rfl rfl hHeld (fun w' hS'=>by subst hS';go_simp;(try rfl)) ?_
        simp only[puts];refine takeM (d:=some 30) 3 rfl rfl hHeld (fun w' hS'=>by subst hS';have qc:=cA;go_simp;(try rfl)) ?_;simp only[puts];refine takeM (d:=some 31) 4 rfl rfl hHeld (fun w' hS'=>by subst hS';go_simp;(try rfl)) ?_;simp only[puts];refine takeM (d:=some 32) 5 rfl rfl hHeld (fun w' hS'=>by subst hS';go_simp;(try rfl)) ?_;simp only[puts]
        refine takeM (d:=some 33) 6 rfl rfl hHeld (fun w' hS'=>by subst hS';go_simp;(try rfl)) ?_;simp only[puts];refine takeM (d:=some 34) 7 rfl rfl hHeld (fun w' hS'=>by subst hS';have qc:=cB;go_simp;(try rfl)) ?_;simp only[puts];refine takeM (d:=some 35) 8 rfl rfl hHeld (fun w' hS'=>by subst hS';have qc:=qLS;have qd:=qGT;go_simp;(try rfl)) ?_;simp only[puts];refine doneM (by kernel_rfl) ?_ _
        subst hHeld;clear cA cB qGT qLS;go_wp2_with fail
        (try go_ret)
        exact HF.out _ (bel_drew (bel_drew HBE.out))
       | false=>
        have HGT2:Hid ((x==y)=true):=qq (by rw[HGT.out hxy,hyx];rfl);have HC3:Hid (rCmp sa sb=rCmp (sa.drop (i+1)) (sb.drop (i+1))):=qq (by rw[HC2.out,hxy,hyx];rfl);go_wp2_with fail;have qLS:=HLS.out;refine reg_start (fun w'=>w'=wr.drew) (by kernel_rfl) rfl ?_;rintro w1 hHeld;refine takeM (d:=some 18) 0 rfl rfl hHeld (fun w' hS'=>by subst hS';go_simp;(try rfl)) ?_;simp only[puts]
        refine takeM (d:=some 19) 1 rfl rfl hHeld (fun w' hS'=>by subst hS';go_simp;(try rfl)) ?_;simp only[puts];refine takeM (d:=some 20) 2 rfl rfl hHeld (fun w' hS'=>by subst hS';go_simp;(try rfl)) ?_;simp only[puts];refine takeM (d:=some 21) 3 rfl rfl hHeld (fun w' hS'=>by subst hS';have qc:=cA;go_simp;(try rfl)) ?_;simp only[puts]
        refine takeM (d:=some 22) 4 rfl rfl hHeld (fun w' hS'=>by subst hS';go_simp;(try rfl)) ?_;simp only[puts];refine takeM (d:=some 23) 5 rfl rfl hHeld (fun w' hS'=>by subst hS';go_simp;(try rfl)) ?_;simp only[puts];refine takeM (d:=some 24) 6 rfl rfl hHeld (fun w' hS'=>by subst hS';go_simp;(try rfl)) ?_;simp only[puts]
        refine takeM (d:=some 25) 7 rfl rfl hHeld (fun w' hS'=>by subst hS';have qc:=cB;go_simp;(try rfl)) ?_;simp only[puts];refine takeM (d:=some 26) 8 rfl rfl hHeld (fun w' hS'=>by subst hS';have qc:=qLS;go_simp;(try rfl)) ?_;simp only[puts];refine doneM (by kernel_rfl) ?_ _;subst hHeld;clear qLS;go_wp2_with fail;have qGT:=HGT2.out;have qLS:=HLS.out
        refine reg_start (fun w'=>w'=wr.drew.drew) (by kernel_rfl) rfl ?_;rintro w1 hHeld;refine takeM (d:=some 27) 0 rfl rfl hHeld (fun w' hS'=>by subst hS';go_simp;(try rfl)) ?_;simp only[puts];refine takeM (d:=some 28) 1 rfl rfl hHeld (fun w' hS'=>by subst hS';go_simp;(try rfl)) ?_;simp only[puts];refine takeM (d:=some 29) 2 rfl rfl hHeld (fun w' hS'=>by subst hS';go_simp;(try rfl)) ?_
        simp only[puts];refine takeM (d:=some 30) 3 rfl rfl hHeld (fun w' hS'=>by subst hS';have qc:=cA;go_simp;(try rfl)) ?_;simp only[puts];refine takeM (d:=some 31) 4 rfl rfl hHeld (fun w' hS'=>by subst hS';go_simp;(try rfl)) ?_;simp only[puts];refine takeM (d:=some 32) 5 rfl rfl hHeld (fun w' hS'=>by subst hS';go_simp;(try rfl)) ?_;simp only[puts]
        refine takeM (d:=some 33) 6 rfl rfl hHeld (fun w' hS'=>by subst hS';go_simp;(try rfl)) ?_;simp only[puts];refine takeM (d:=some 34) 7 rfl rfl hHeld (fun w' hS'=>by subst hS';have qc:=cB;go_simp;(try rfl)) ?_;simp only[puts];refine takeM (d:=some 35) 8 rfl rfl hHeld (fun w' hS'=>by subst hS';have qc:=qLS;have qd:=qGT;go_simp;(try rfl)) ?_;simp only[puts];refine doneM (by kernel_rfl) ?_ _
        subst hHeld;clear cA cB qGT qLS;have HBF:=qq (bel_drew (bel_drew HBE.out));go_wp2_with fail;go_roundw
        case rel=>exact⟨i+1,by omega,by omega,by go_num,HC3,HBF⟩
        case measure=>simp[intOf];omega
    · have h2:¬(i:Int)<(nb:Int):=by omega
      have HF:=qq (fun w' hw=>HRES.out ((na:Int) - (nb:Int)) w' (by rw[HC.out,rCmp_end (.inr (by rw[←HNB.out];omega)) (by rw[←HNA.out];omega) (by rw[←HNB.out];omega),HNA.out,HNB.out]) hw);clear hlb1;go_wp2_with fail
      (try go_ret)
      exact HF.out _ HBE.out
  · have h1:¬(i:Int)<(na:Int):=by omega
    have HF:=qq (fun w' hw=>HRES.out ((na:Int) - (nb:Int)) w' (by rw[HC.out,rCmp_end (.inl (by rw[←HNA.out];omega)) (by rw[←HNA.out];omega) (by rw[←HNB.out];omega),HNA.out,HNB.out]) hw);clear hla1;go_wp2_with fail
    (try go_ret)
    exact HF.out _ HBE.out
theorem take_snoc {α:Type} {l:List α} {i:Nat} {x:α} (h:l[i]? =some x):l.take (i+1)=l.take i ++ [x]:=by rw[List.take_add_one,h];rfl
theorem drop_at {α:Type} {l:List α} {i:Nat} {x:α} (h:l[i]? =some x):l.drop i=x::l.drop (i+1):=by
 obtain⟨h1,e1⟩:=List.getElem?_eq_some_iff.1 h;rw[List.drop_eq_getElem_cons h1,e1]
theorem ris_drop {l:List PAlt} (h:Ris ltA l) {i:Nat} {x:PAlt} (hx:l[i]? =some x):∀y∈l.drop (i+1),ltA x y=true:=by
 have h1:Ris ltA (l.drop i):=List.Pairwise.sublist (List.drop_sublist i l) h;rw[drop_at hx] at h1;exact(List.pairwise_cons.1 h1).1
structure PutAt (l:List PAlt) (a:PAlt) (i:Nat) (done:Bool) (out:List PAlt):Prop where
 no:done=false→out=l.take i∧ins ltA a l=out ++ins ltA a (l.drop i)
 yes:done=true→ins ltA a l=out ++l.drop i∧∀y∈l.drop i,ltA a y=true
 len:out.length≤i+1
theorem PutAt.start (l:List PAlt) (a:PAlt):PutAt l a 0 false []:=⟨fun _=>⟨rfl,rfl⟩,fun h=>(by cases h),by simp⟩
theorem PutAt.same {l:List PAlt} {a x:PAlt} {i:Nat} {out:List PAlt} {done:Bool} (h:PutAt l a i done out) (hx:l[i]? =some x) (he:a=x):ins ltA a l=l:=by
 subst he
 cases done with
 | true=>
  have:=(h.yes rfl).2 a (by rw[drop_at hx];simp);rw[toA.irr] at this
  cases this
 | false=>
  obtain⟨h1,h2⟩:=h.no rfl;have e:ins ltA a (a::l.drop (i+1))=a::l.drop (i+1):=by unfold ins;rw[if_neg (by rw[toA.irr];simp),if_neg (by rw[toA.irr];simp)]
  rw[drop_at hx,e,←drop_at hx,h1,List.take_append_drop] at h2;exact h2
theorem PutAt.before {l:List PAlt} {a x:PAlt} {i:Nat} {out:List PAlt} (h:PutAt l a i false out) (hr:Ris ltA l) (hx:l[i]? =some x) (hl:ltA a x=true):PutAt l a (i+1) true ((out ++ [a]) ++ [x]):=by
 obtain⟨h1,h2⟩:=h.no rfl;refine⟨fun e=>(by cases e),fun _=>⟨?_,fun y hy=>toA.tr _ _ _ hl (ris_drop hr hx y hy)⟩,?_⟩
 · rw[h2,drop_at hx]
   conv=>lhs;rw[ins,if_pos hl]
   simp
 · have hi:=(List.getElem?_eq_some_iff.1 hx).1;rw[h1];simp;omega
theorem PutAt.pass {l:List PAlt} {a x:PAlt} {i:Nat} {out:List PAlt} (h:PutAt l a i true out) (hx:l[i]? =some x):PutAt l a (i+1) true (out ++ [x]):=by
 obtain⟨h1,h2⟩:=h.yes rfl;exact⟨fun e=>(by cases e),fun _=>⟨by rw[h1,drop_at hx];simp,fun y hy=>h2 y (by rw[drop_at hx];simp[hy])⟩,by have:=h.len;simp;omega⟩
theorem PutAt.less {l:List PAlt} {a x:PAlt} {i:Nat} {out:List PAlt} (h:PutAt l a i true out) (hx:l[i]? =some x):ltA a x=true:=(h.yes rfl).2 x (by rw[drop_at hx];simp)
theorem PutAt.after {l:List PAlt} {a x:PAlt} {i:Nat} {out:List PAlt} (h:PutAt l a i false out) (hx:l[i]? =some x) (h1:ltA a x=false) (h2:ltA x a=true):PutAt l a (i+1) false (out ++ [x]):=by
 obtain⟨h3,h4⟩:=h.no rfl;refine⟨fun _=>⟨by rw[h3,take_snoc hx],?_⟩,fun e=>(by cases e),by have:=h.len;simp;omega⟩;rw[h4,drop_at hx]
 conv=>lhs;rw[ins,if_neg (by rw[h1];simp),if_pos h2]
 simp
def PutEnds (B:Nat) (l:List PAlt) (a:PAlt) (w:World) (e:Ending) (w':World):Prop:=∃v,e=.returned v∧AltsV 49 B w' v (ins ltA a l)∧Below w.heap.size w w'
theorem put_of (B : Nat) (vl va : Value) (l : List PAlt) (a : PAlt) (w : World) (hl : AltsV 49 B w vl l) (ha : AltV B w va a) (hr : Ris ltA l) (hn : l.length ≤ 50000) (hm : ∀ x ∈ l, x.length ≤ 1000) (hma : a.length ≤ 1000) (hBw : B ≤ w.heap.size) :
    Calls Tryz.prog 55 #[vl,va] w (PutEnds B l a w):=by
 obtain⟨i0,ei,ez,es,eb⟩:=info_parts infoNames;have hne:49≠9:=by decide
 have HNE:=qq hne;have HL:=qq (fun W (hW:Below w.heap.size w W)=>hl.below hW);have HV:=qq (fun W (hW:Below w.heap.size w W)=>row_be ha hW);have HR:=qq hr;have HM:=qq hm;obtain⟨al,cl,rfl⟩:=hl.row;obtain⟨av,cv,rfl⟩:=row_slice ha;obtain⟨n,hnn⟩:∃n,n=l.length:=⟨_,rfl⟩
 have HN:=qq hnn;obtain⟨na,hna⟩:∃n,n=a.length:=⟨_,rfl⟩
 have HNA:=qq hna;have HC:=qq (fun W (x:PAlt) vx Bx (hW:Below w.heap.size w W) (hx:AltV Bx W vx x) (hlx:x.length≤1000)=>rcompare_of B Bx (.slice av a.length cv) vx a x W (row_be ha hW) hx hma hlx);rw[←hnn] at hn HL⊢;rw[←hna] at hma HV HC⊢;have HRES:Hid (∀v w',AltsV 49 B w' v (ins ltA a l)→Below w.heap.size w w'→PutEnds B l a w (.returned v) w'):=qq (fun v w' h1 h2=>⟨v,rfl,h1,h2⟩)
 generalize PutEnds B l a w=R at HRES⊢;clear hl ha hr hm hne hnn hna;go_enter Tryz.func55,Tryz.ntmps55;go_wp2_with fail
 go_loopw [5,6,13] (fun ov dv cc wr=>∃(i m:Nat) (done:Bool) (out:List PAlt) (vs:Array Value),i≤n∧m≤i+1∧m=out.length∧dv=.bool done∧cc=.int .i64 (i:Int)∧Hid (PutAt l a i done out)∧Hid (wr.ownsRow w.heap.size 49 1 ov m vs.toList)∧Hid (Alts B wr vs out.toArray)∧Hid (Below w.heap.size w wr)) (fun _ _ cc _=>n - (intOf cc).toNat)
 case atStart=>exact⟨0,0,false,[],#[],by omega,by omega,rfl,by first | rfl | exact True.intro,by first | rfl | go_num,qq (PutAt.start l a),qq (own_emptyB w w.heap.size _ _ (Nat.le_refl _)),qq ⟨rfl,fun i hi=>by simp at hi⟩,qq ((Below.refl _ _).alloc (Nat.le_refl _) _)⟩
 case round=>
  obtain⟨i,m,done,out,vs,hi,hmi,hmo,rfl,rfl,HP,HO,HA,HB⟩:=hrel;have hi0:(0:Int)≤(i:Int):=by omega
  obtain⟨ao,co,rfl⟩:=row_slice HO.out;have hwr:=HB.out.size;by_cases hlt:i<n
  · have hi1:(i:Int)<(n:Int):=by omega
    obtain⟨x,hx⟩:∃x,l[i]? =some x:=⟨_,List.getElem?_eq_getElem (by rw[←HN.out];exact hlt)⟩
    have hxm:=HM.out x (List.mem_of_getElem? hx);obtain⟨g,ax,cx,cap,e1,hxv,hcell,hgl⟩:=alts_at (HL.out _ HB.out) i x hx;injection e1 with e1a e1n e1b
    clear e1n;subst e1a e1b;have hc1:=hcell wr (Below.refl _ _);obtain⟨nx,hnx⟩:∃q,q=x.length:=⟨_,rfl⟩
    rw[←hnx] at hc1 hxv hxm;have HNX:=qq hnx;have HXV:=qq hxv;have HCX:=qq (HC.out wr x (.slice ax nx cx) B HB.out hxv (by rw[←hnx];exact hxm));have HMO:=qq hmo;have HXI:=qq hx;obtain⟨c,hc⟩:∃c,c=rCmp a x:=⟨_,rfl⟩
    rw[←hc] at HCX;have HCC:=qq hc;clear hcell hxv hnx hx hmo hc;go_wp2_with fail;refine HCX.out.mono ?_;rintro e w2 ⟨rfl,hb2⟩;have HB2:=qq (below_then HB.out hb2);have HO2:=qq (row_be HO.out hb2);have HA2:=qq (HA.out.keep hb2.block);have hb12:=qq hb2;clear hb2 hc1;have hz2:=HB2.out.size
    have HXW:Hid (AltV B w2 (.slice ax nx cx) x):=qq (by have:=row_be HXV.out hb12.out;rw[HNX.out] at this⊢;exact this);have HVW:Hid (AltV B w2 (.slice av na cv) a):=qq (by have:=HV.out _ HB2.out;rw[HNA.out] at this⊢;exact this);by_cases hc0:c=0
    · have HSAME:Hid (ins ltA a l=l):=qq (HP.out.same HXI.out ((rCmp_lt a x).2.1 (by rw[←HCC.out];exact hc0)));have HF:Hid (R (.returned (.slice (some ⟨g,0,none⟩) n cl)) w2):=qq (HRES.out _ _ (by rw[HSAME.out];exact HL.out _ HB2.out) HB2.out);subst hc0;go_wp2_with fail
      (try go_ret)
      exact HF.out
    · have hc0b:(c==0)=false:=by simpa using hc0
      have HXE:Hid (a≠x):=qq (fun e=>hc0 (by rw[HCC.out];exact(rCmp_lt a x).2.2 e));clear hc0;by_cases hcl:c<0
      · have HLT:Hid (ltA a x=true):=qq ((rCmp_lt a x).1.1 (by rw[←HCC.out];exact hcl))
        cases done with
        | true=>
         have HP2:=qq (HP.out.pass HXI.out);have hba:Below w2.heap.size w2 (w2.alloc (.cells #[.slice ax nx cx] 49)):=(Below.refl _ _).alloc (Nat.le_refl _) _;have HROW:=qq (row_be HO2.out hba);have HAL:=qq (HA2.out.keep hba.block);have HX4:=qq (row_be (HXW.out) hba);have HB4:=qq (HB2.out.trans (hba.mono HB2.out.size));clear hba
         go_wp2_with (at_builtin;refine wpList_append_rows rfl _ _ 29 rfl w.heap.size 49 i0 (.slice none 0 0) 1 24 Tryz.underlying29 ei ez es eb rfl (by decide) _ _ _ rfl HROW.out w2.heap.size _ _ _ rfl (lit_row _ _ _) ?ow3q1 ?c1w3q1 ?c2w3q1 ?c3w3q1 ?_)
         case ow3q1=>first | rfl | (intro u hu;obtain rfl:=List.mem_singleton.1 hu;rfl)
         case c1w3q1=>unfold maxLen;omega
         case c2w3q1=>omega
         case c3w3q1=>have h4:=HB4.out.size;simpa using h4
         intro vw3 w3 hown hgrow hat;have HBw3:=qq (HB4.out.grown hgrow HB4.out.size (fun q hq=>(HROW.out.lt q hq).1));have HOw3:Hid (w3.ownsRow w.heap.size 49 1 vw3 (m+1) (vs.push (.slice ax nx cx)).toList):=qq (by simpa using hown);have HAw3:Hid (Alts B w3 (vs.push (.slice ax nx cx)) (out ++ [x]).toArray):=qq (snoc2 HNE.out HROW.out HAL.out HX4.out hgrow);have hzw3:=HBw3.out.size
         obtain⟨aw3,cw3,rfl⟩:=row_slice hown;clear hown hgrow hat HROW HAL HX4 HB4;go_wp2_with fail;go_roundw
         case rel=>exact⟨i+1,m+1,true,_,_,by omega,by omega,by rw[List.length_append,←HMO.out];rfl,by first | rfl | exact True.intro,by go_num,HP2,HOw3,HAw3,HBw3⟩
         case measure=>simp[intOf];omega
        | false=>
         have HP2:=qq (HP.out.before HR.out HXI.out HLT.out);have HXK:=HXW;have hmi2:m≤i:=by rw[HMO.out,(HP.out.no rfl).1];simp;omega
         have hba:Below w2.heap.size w2 (w2.alloc (.cells #[.slice av na cv] 49)):=(Below.refl _ _).alloc (Nat.le_refl _) _;have HROW:=qq (row_be HO2.out hba);have HAL:=qq (HA2.out.keep hba.block);have HX4:=qq (row_be (HVW.out) hba);have HB4:=qq (HB2.out.trans (hba.mono HB2.out.size));clear hba
         go_wp2_with (at_builtin;refine wpList_append_rows rfl _ _ 29 rfl w.heap.size 49 i0 (.slice none 0 0) 1 24 Tryz.underlying29 ei ez es eb rfl (by decide) _ _ _ rfl HROW.out w2.heap.size _ _ _ rfl (lit_row _ _ _) ?ow3q3 ?c1w3q3 ?c2w3q3 ?c3w3q3 ?_)
         case ow3q3=>first | rfl | (intro u hu;obtain rfl:=List.mem_singleton.1 hu;rfl)
         case c1w3q3=>unfold maxLen;omega
         case c2w3q3=>omega
         case c3w3q3=>have h4:=HB4.out.size;simpa using h4
         intro vw3 w3 hown hgrow hat;have HBw3:=qq (HB4.out.grown hgrow HB4.out.size (fun q hq=>(HROW.out.lt q hq).1));have HOw3:Hid (w3.ownsRow w.heap.size 49 1 vw3 (m+1) (vs.push (.slice av na cv)).toList):=qq (by simpa using hown);have HAw3:Hid (Alts B w3 (vs.push (.slice av na cv)) (out ++ [a]).toArray):=qq (snoc2 HNE.out HROW.out HAL.out HX4.out hgrow);have hzw3:=HBw3.out.size
         obtain⟨aw3,cw3,rfl⟩:=row_slice hown;have HXG:Hid (AltV B w3 (.slice ax nx cx) x):=qq (alt_gro HNE.out (row_al HXW.out _) hgrow HROW.out);clear hown hgrow hat HROW HAL HX4 HB4;have HXW3:=HXG;have hba:Below w3.heap.size w3 (w3.alloc (.cells #[.slice ax nx cx] 49)):=(Below.refl _ _).alloc (Nat.le_refl _) _;have HROW:=qq (row_be HOw3.out hba);have HAL:=qq (HAw3.out.keep hba.block)
         have HX4:=qq (row_be (HXW3.out) hba);have HB4:=qq (HBw3.out.trans (hba.mono HBw3.out.size));clear hba;go_wp2_with (at_builtin;refine wpList_append_rows rfl _ _ 29 rfl w.heap.size 49 i0 (.slice none 0 0) 1 24 Tryz.underlying29 ei ez es eb rfl (by decide) _ _ _ rfl HROW.out w3.heap.size _ _ _ rfl (lit_row _ _ _) ?ow4q4 ?c1w4q4 ?c2w4q4 ?c3w4q4 ?_)
         case ow4q4=>first | rfl | (intro u hu;obtain rfl:=List.mem_singleton.1 hu;rfl)
         case c1w4q4=>unfold maxLen;omega
         case c2w4q4=>omega
         case c3w4q4=>have h4:=HB4.out.size;simpa using h4
         intro vw4 w4 hown hgrow hat;have HBw4:=qq (HB4.out.grown hgrow HB4.out.size (fun q hq=>(HROW.out.lt q hq).1));have HOw4:Hid (w4.ownsRow w.heap.size 49 1 vw4 ((m+1)+1) ((vs.push (.slice av na cv)).push (.slice ax nx cx)).toList):=qq (by simpa using hown)
         have HAw4:Hid (Alts B w4 ((vs.push (.slice av na cv)).push (.slice ax nx cx)) ((out ++ [a]) ++ [x]).toArray):=qq (snoc2 HNE.out HROW.out HAL.out HX4.out hgrow);have hzw4:=HBw4.out.size;obtain⟨aw4,cw4,rfl⟩:=row_slice hown;clear hown hgrow hat HROW HAL HX4 HB4;go_wp2_with fail;go_roundw
         case rel=>exact⟨i+1,m+1+1,true,_,_,by omega,by omega,by rw[List.length_append,List.length_append,←HMO.out];rfl,by first | rfl | exact True.intro,by go_num,HP2,HOw4,HAw4,HBw4⟩
         case measure=>simp[intOf];omega
      · have HLT:Hid (ltA a x=false):=qq (by
          cases k:ltA a x with
          | false=>rfl
          | true=>exact absurd ((rCmp_lt a x).1.2 k) (by rw[←HCC.out];exact hcl))
        cases done with
        | true=>exact absurd (HP.out.less HXI.out) (by rw[HLT.out];simp)
        | false=>
         have HP2:=qq (HP.out.after HXI.out HLT.out (by
           cases k:ltA x a with
           | true=>rfl
           | false=>exact absurd (toA.eq _ _ HLT.out k) HXE.out))
         have hba:Below w2.heap.size w2 (w2.alloc (.cells #[.slice ax nx cx] 49)):=(Below.refl _ _).alloc (Nat.le_refl _) _;have HROW:=qq (row_be HO2.out hba);have HAL:=qq (HA2.out.keep hba.block);have HX4:=qq (row_be (HXW.out) hba);have HB4:=qq (HB2.out.trans (hba.mono HB2.out.size));clear hba
         go_wp2_with (at_builtin;refine wpList_append_rows rfl _ _ 29 rfl w.heap.size 49 i0 (.slice none 0 0) 1 24 Tryz.underlying29 ei ez es eb rfl (by decide) _ _ _ rfl HROW.out w2.heap.size _ _ _ rfl (lit_row _ _ _) ?ow3q2 ?c1w3q2 ?c2w3q2 ?c3w3q2 ?_)
         case ow3q2=>first | rfl | (intro u hu;obtain rfl:=List.mem_singleton.1 hu;rfl)
         case c1w3q2=>unfold maxLen;omega
         case c2w3q2=>omega
         case c3w3q2=>have h4:=HB4.out.size;simpa using h4
         intro vw3 w3 hown hgrow hat;have HBw3:=qq (HB4.out.grown hgrow HB4.out.size (fun q hq=>(HROW.out.lt q hq).1));have HOw3:Hid (w3.ownsRow w.heap.size 49 1 vw3 (m+1) (vs.push (.slice ax nx cx)).toList):=qq (by simpa using hown);have HAw3:Hid (Alts B w3 (vs.push (.slice ax nx cx)) (out ++ [x]).toArray):=qq (snoc2 HNE.out HROW.out HAL.out HX4.out hgrow);have hzw3:=HBw3.out.size
         obtain⟨aw3,cw3,rfl⟩:=row_slice hown;clear hown hgrow hat HROW HAL HX4 HB4;go_wp2_with fail;go_roundw
         case rel=>exact⟨i+1,m+1,false,_,_,by omega,by omega,by rw[List.length_append,←HMO.out];rfl,by first | rfl | exact True.intro,by go_num,HP2,HOw3,HAw3,HBw3⟩
         case measure=>simp[intOf];omega
  · obtain rfl:n=i:=by omega
    have HMO:=qq hmo;clear hmo
    cases done with
    | true=>
     have HF:Hid (R (.returned (.slice ao m co)) wr):=qq (HRES.out _ _ (by
       rw[(HP.out.yes rfl).1,HN.out,List.drop_length,List.append_nil];exact⟨vs,by rw[←HMO.out];exact row_base HO.out hBw,HA.out⟩) HB.out)
     go_wp2_with fail
     (try go_ret)
     exact HF.out
    | false=>
     have HVR:Hid (AltV B wr (.slice av na cv) a):=qq (by have:=HV.out _ HB.out;rw[HNA.out] at this⊢;exact this);have HINS:Hid (ins ltA a l=out ++ [a]):=qq (by rw[(HP.out.no rfl).2,HN.out,List.drop_length];rfl);have hba:Below wr.heap.size wr (wr.alloc (.cells #[.slice av na cv] 49)):=(Below.refl _ _).alloc (Nat.le_refl _) _;have HROW:=qq (row_be HO.out hba);have HAL:=qq (HA.out.keep hba.block)
     have HX4:=qq (row_be (HVR.out) hba);have HB4:=qq (HB.out.trans (hba.mono HB.out.size));clear hba;go_wp2_with (at_builtin;refine wpList_append_rows rfl _ _ 29 rfl w.heap.size 49 i0 (.slice none 0 0) 1 24 Tryz.underlying29 ei ez es eb rfl (by decide) _ _ _ rfl HROW.out wr.heap.size _ _ _ rfl (lit_row _ _ _) ?ow3q5 ?c1w3q5 ?c2w3q5 ?c3w3q5 ?_)
     case ow3q5=>first | rfl | (intro u hu;obtain rfl:=List.mem_singleton.1 hu;rfl)
     case c1w3q5=>unfold maxLen;omega
     case c2w3q5=>omega
     case c3w3q5=>have h4:=HB4.out.size;simpa using h4
     intro vw3 w3 hown hgrow hat;have HBw3:=qq (HB4.out.grown hgrow HB4.out.size (fun q hq=>(HROW.out.lt q hq).1));have HOw3:Hid (w3.ownsRow w.heap.size 49 1 vw3 (m+1) (vs.push (.slice av na cv)).toList):=qq (by simpa using hown);have HAw3:Hid (Alts B w3 (vs.push (.slice av na cv)) (out ++ [a]).toArray):=qq (snoc2 HNE.out HROW.out HAL.out HX4.out hgrow);have hzw3:=HBw3.out.size
     obtain⟨aw3,cw3,rfl⟩:=row_slice hown;clear hown hgrow hat HROW HAL HX4 HB4;have HF:Hid (R (.returned (.slice aw3 (m+1) cw3)) w3):=qq (HRES.out _ _ (by
       rw[HINS.out];exact⟨_,by rw[List.length_append,←HMO.out];exact row_base HOw3.out hBw,HAw3.out⟩) HBw3.out)
     go_wp2_with fail
     (try go_ret)
     exact HF.out
end Go.Proofs.YtbepkpjcjpmpmaaGreatDoor
