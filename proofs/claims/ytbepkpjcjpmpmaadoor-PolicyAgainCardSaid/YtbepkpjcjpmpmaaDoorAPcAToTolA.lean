/- PcA, PcB, PolO, KidG, PolT, PolX, TolA -/
import Derived.Test.YtbepkpjcjpmpmaaDoorAPolCToPolD
set_option linter.unusedSimpArgs false
set_option linter.unusedVariables false
set_option maxRecDepth 100000
set_option maxHeartbeats 16000000
namespace Go.Proofs.YtbepkpjcjpmpmaaDoor
open Go.RowKit Go.Shelf
structure Pc where
 par:Int
 op:Int
 nm:PStr
 opt:Bool
def PcsV (w:World) (v:Value) (row:List Pc):Prop:=∃a c,v=.slice a row.length c∧(∀i p,row[i]? =some p→∃b o,a=some ⟨b,o,none⟩∧b<w.heap.size∧
  w.cell? ⟨b,o+i*4,none⟩=some (.int .i64 p.par)∧w.cell? ⟨b,o+i*4+1,none⟩=some (.int .i64 p.op)∧w.cell? ⟨b,o+i*4+2,none⟩=some (.string ⟨p.nm.toArray⟩)∧w.cell? ⟨b,o+i*4+3,none⟩=some (.bool p.opt))
theorem PcsV.below {w w':World} {v:Value} {row:List Pc} (h:PcsV w v row) (hb:Below w.heap.size w w'):PcsV w' v row:=by
 obtain⟨a,c,rfl,h1⟩:=h;refine⟨a,c,rfl,fun i p hp=> ?_⟩;obtain⟨b,o,e1,e2,c0,c1,c2,c3⟩:=h1 i p hp;exact⟨b,o,e1,Nat.lt_of_lt_of_le e2 hb.size,(hb.cell (p:=⟨b,_,none⟩) e2).trans c0,(hb.cell (p:=⟨b,_,none⟩) e2).trans c1,(hb.cell (p:=⟨b,_,none⟩) e2).trans c2,(hb.cell (p:=⟨b,_,none⟩) e2).trans c3⟩
def pBig (row:List Pc):Bool:=decide (row.length<1) || decide (30<row.length) || row.any (fun p=>decide (100<p.nm.length))
theorem big_of (v:Value) (row:List Pc) (w:World) (h:PcsV w v row):Calls Tryd.prog 5 #[v] w (Makes (.bool (pBig row)) w):=by
 have HP:=qq (fun W (hW:Below w.heap.size w W)=>h.below hW);obtain⟨a,c,rfl,h1⟩:=h;clear h1;by_cases hs:row.length<1∨30<row.length
 · have hb:pBig row=true:=by
    unfold pBig;rcases hs with h | h
    · rw[decide_eq_true h];rfl
    · rw[decide_eq_true h];simp
   rw[hb];clear hb HP;generalize row.length=n at*;rcases hs with hs | hs
   · have h1:((n:Nat):Int)<1:=by omega
     clear hs;go_enter Tryd.func5,Tryd.ntmps5;go_wp2_with fail;go_ret;exact⟨rfl,Below.refl _ _⟩
   · have h1:¬((n:Nat):Int)<1:=by omega
     have h2:(30:Int)<(n:Nat):=by omega
     clear hs;go_enter Tryd.func5,Tryd.ntmps5;go_wp2_with fail;go_ret;exact⟨rfl,Below.refl _ _⟩
 · have hb:Hid (pBig row=row.any (fun p=>decide (100<p.nm.length))):=qq (by
     unfold pBig;rw[decide_eq_false (fun h=>hs (.inl h)),decide_eq_false (fun h=>hs (.inr h))];rfl)
   obtain⟨n,hn⟩:∃n,n=row.length:=⟨_,rfl⟩
   have HN:=qq hn;rw[←hn] at hs⊢;have h1:¬((n:Nat):Int)<1:=by omega
   have h2:¬(30:Int)<(n:Nat):=by omega
   clear hs hn;have HRES:Hid (∀w',Below w.heap.size w w'→∀b,pBig row=b→Makes (.bool (pBig row)) w (.returned (.bool b)) w'):=qq (fun w' hb b h=>⟨by rw[h],hb⟩);generalize Makes (.bool (pBig row)) w=R at HRES⊢;go_enter Tryd.func5,Tryd.ntmps5;go_wp2_with fail
   go_loopw [15] (fun cc wr=>∃i:Nat,i≤n∧cc=.int .i64 (i:Int)∧Hid (∀(j:Nat) p,j<i→row[j]? =some p→¬100<p.nm.length)∧Hid (Below w.heap.size w wr)) (fun cc _=>n - (intOf cc).toNat)
   case atStart=>exact⟨0,by omega,by first | rfl | go_num,qq (fun j p h=>by omega),qq (Below.refl _ _)⟩
   case round=>
    obtain⟨i,hi,rfl,HA,HB⟩:=hrel;have hi0:(0:Int)≤(i:Int):=by omega
    by_cases hlt:i<n
    · have hi1:(i:Int)<(n:Int):=by omega
      obtain⟨p,hp⟩:∃p,row[i]? =some p:=⟨_,List.getElem?_eq_getElem (by rw[←HN.out];exact hlt)⟩
      obtain⟨a',c',ev,hc⟩:=HP.out _ HB.out;injection ev with ev1 _ ev2
      subst ev1 ev2;obtain⟨b,o,rfl,hbw,c0,c1,c2,c3⟩:=hc i p hp;obtain⟨pp,po,pn,pt⟩:=p;dsimp only at c0 c1 c2 c3;have hsz:=str_size pn;have HI:=qq hp;clear hc hp;by_cases hl:100<pn.length
      · have hl':(100:Int)<(pn.length:Int):=by omega
        have HY:Hid (pBig row=true):=qq (by
          rw[hb.out,List.any_eq_true];exact⟨_,List.mem_of_getElem? HI.out,by simpa using hl⟩)
        clear hl;generalize pn.length=q at*;go_wp2_with fail
        (try go_ret)
        exact HRES.out _ (bel_alloc HB.out _) true HY.out
      · have hl':¬(100:Int)<(pn.length:Int):=by omega
        have HA2:Hid (∀(j:Nat) p,j<i+1→row[j]? =some p→¬100<p.nm.length):=qq (fun j x hj hx=>by
          rcases Nat.lt_or_ge j i with h | h
          · exact HA.out j x h hx
          · obtain rfl:j=i:=by omega
            rw[HI.out] at hx;injection hx with hx
            subst hx;exact hl)
        clear hl;generalize pn.length=q at*;go_wp2_with fail;go_roundw
        case rel=>exact⟨i+1,by omega,by go_num,HA2,qq (bel_alloc HB.out _)⟩
        case measure=>simp[intOf];omega
    · have HNO:Hid (pBig row=false):=qq (by
        rw[hb.out,List.any_eq_false];intro p hp;obtain⟨j,hj,rfl⟩:=List.getElem_of_mem hp;have:=HA.out j _ (by have:=HN.out;omega) (List.getElem?_eq_getElem hj);simpa using this)
      go_wp2_with fail
      (try go_ret)
      exact HRES.out _ HB.out false HNO.out
theorem pBig_no {row:List Pc} (h:pBig row=false):1≤row.length∧row.length≤30∧∀p∈row,p.nm.length≤100:=by
 unfold pBig at h;simp only[Bool.or_eq_false_iff,decide_eq_false_iff_not,List.any_eq_false,decide_eq_true_eq] at h;exact⟨by omega,by omega,fun p hp=>by have:=h.2 p hp;omega⟩
def parOf (p:Int) (k:Nat):Int:=Go.RowKit.wrap64 ((IntKind.u64.wrap p).tmod (k:Int))
def tK (row:List Pc):Nat→Nat→PF
 | 0,_=> .nil
 | g+1,i=>match row[row.length - (g+1)]? with
  | some p=>if parOf p.par (row.length - (g+1))=(i:Int) then .cons p.op p.nm p.opt (tK row g (row.length - (g+1))) (tK row g i) else tK row g i
  | none=> .nil
def pTree (row:List Pc) (i:Nat):PE:=match row[i]? with | some p=>⟨p.op,p.nm,p.opt,tK row (row.length - (i+1)) i⟩ | none=>⟨0,[],false,.nil⟩
def PF.app:PF→PF→PF
 | .nil,f=>f
 | .cons o n b k r,f=> .cons o n b k (r.app f)
theorem PF.app_nil:∀f:PF,f.app .nil=f
 | .nil=>rfl
 | .cons o n b k r=>by show PF.cons o n b k (r.app .nil)=_;rw[PF.app_nil r]
theorem PF.app_cons:∀(f:PF) (o:Int) (n:PStr) (b:Bool) (k r:PF),f.app (.cons o n b k r)=(f.snoc ⟨o,n,b,k⟩).app r
 | .nil,_,_,_,_,_=>rfl
 | .cons o n b k r,o2,n2,b2,k2,r2=>by show PF.cons o n b k (r.app _)=PF.cons o n b k ((r.snoc _).app r2);rw[PF.app_cons r]
theorem tK_at {row:List Pc} {k i:Nat} {p:Pc} (h:row[k]? =some p):tK row (row.length - k) i=if parOf p.par k=(i:Int) then .cons p.op p.nm p.opt (tK row (row.length - (k+1)) k) (tK row (row.length - (k+1)) i) else tK row (row.length - (k+1)) i:=by
 have hk:=(List.getElem?_eq_some_iff.1 h).1;obtain⟨g,hg⟩:∃g,row.length - k=g+1:=⟨row.length - k - 1,by omega⟩
 have e:row.length - (g+1)=k:=by omega
 have e2:row.length - (k+1)=g:=by omega
 rw[hg,e2]
 conv=>lhs;unfold tK
 rw[e,h]
theorem tK_len (row:List Pc):∀(g i:Nat),(tK row g i).len≤g
 | 0,i=>Nat.le_refl _
 | g+1,i=>by
  have h:=tK_len row g i;unfold tK;split
  · split
    · show(tK row g i).len+1≤g+1;omega
    · omega
  · simp[PF.len]
theorem tK_small (row:List Pc) (hn:∀p∈row,p.nm.length≤100):∀(g i:Nat),g≤30→(tK row g i).small
 | 0,i,_=>True.intro
 | g+1,i,hg=>by
  unfold tK;split
  · rename_i p hp
    split
    · have:=tK_len row g (row.length - (g+1));exact⟨by have:=hn p (List.mem_of_getElem? hp);omega,by omega,tK_small row hn g _ (by omega),tK_small row hn g i (by omega)⟩
    · exact tK_small row hn g i (by omega)
  · exact True.intro
theorem pTree_ok {row:List Pc} (h:pBig row=false) (i:Nat):(pTree row i).nm.length≤100∧(pTree row i).kids.len≤30∧(pTree row i).kids.small:=by
 obtain⟨_,h2,h3⟩:=pBig_no h;unfold pTree;split
 · rename_i p hp
   have:=tK_len row (row.length - (i+1)) i;exact⟨h3 p (List.mem_of_getElem? hp),by dsimp only;omega,tK_small row h3 _ _ (by omega)⟩
 · exact⟨by simp,by simp[PF.len],True.intro⟩
open Go.RowKit
def KTS (S:Nat→Prop) (w:World):PF→Nat→Nat→Prop
 | .nil,_,_=>True
 | .cons op nm opt kids rest, b, o => (w.cell? ⟨b, o, none⟩ = some (.int .i64 op) ∧ w.cell? ⟨b, o + 1, none⟩ = some (encStr nm) ∧ w.cell? ⟨b, o + 2, none⟩ = some (.bool opt) ∧ ∃ a c, w.cell? ⟨b, o + 3, none⟩ = some (.slice a kids.len c) ∧
     (kids≠.nil→∃b2 o2,a=some ⟨b2,o2,none⟩∧S b2∧KTS S w kids b2 o2))∧KTS S w rest b (o+4)
def KCS (S:Nat→Prop) (w:World) (kids:PF) (a:Option Addr):Prop:=kids≠.nil→∃b o,a=some ⟨b,o,none⟩∧S b∧KTS S w kids b o
theorem KTS.keep {S S':Nat→Prop} {w w':World} (hS:∀k,S k→S' k) (he:∀k,S k→w'.heap[k]? =w.heap[k]?):∀(l:PF) (b o:Nat),(l≠.nil→S b)→KTS S w l b o→KTS S' w' l b o
 | .nil,_,_,_,_=>True.intro
 | .cons op nm opt kids rest,b,o,hb,h=>by
  obtain⟨⟨h1,h2,h3,a,c,h4,h5⟩,h6⟩:=h;have hh:=he b (hb (by simp));refine⟨⟨(World.cell?_of_block (w:=w) (a:=⟨b,o,none⟩) hh).trans h1,(World.cell?_of_block (w:=w) (a:=⟨b,o+1,none⟩) hh).trans h2,(World.cell?_of_block (w:=w) (a:=⟨b,o+2,none⟩) hh).trans h3,a,c,(World.cell?_of_block (w:=w) (a:=⟨b,o+3,none⟩) hh).trans h4,fun hn=> ?_⟩,KTS.keep hS he rest b (o+4) (fun _=>hb (by simp)) h6⟩
  obtain⟨b2,o2,e1,e2,e4⟩:=h5 hn;exact⟨b2,o2,e1,hS _ e2,KTS.keep hS he kids b2 o2 (fun _=>e2) e4⟩
theorem KCS.keep {S S':Nat→Prop} {w w':World} {l:PF} {a:Option Addr} (h:KCS S w l a) (hS:∀k,S k→S' k) (he:∀k,S k→w'.heap[k]? =w.heap[k]?):KCS S' w' l a:=fun hn=>by
 obtain⟨b,o,e1,e2,e4⟩:=h hn;exact⟨b,o,e1,hS _ e2,e4.keep hS he l b o (fun _=>e2)⟩
theorem KTS.of {B E:Nat} {w:World}:∀(l:PF) (b o:Nat),KT B E w l b o→KTS (fun k=>B≤k∧k<E) w l b o
 | .nil,_,_,_=>True.intro
 | .cons op nm opt kids rest,b,o,h=>by
  obtain⟨⟨h1,h2,h3,a,c,h4,h5⟩,h6⟩:=h;refine⟨⟨h1,h2,h3,a,c,h4,fun hn=> ?_⟩,KTS.of rest b (o+4) h6⟩;obtain⟨b2,o2,e1,e2,e3,e4⟩:=h5 hn;exact⟨b2,o2,e1,⟨e2,e3⟩,KTS.of kids b2 o2 e4⟩
theorem KTS.kt {B E:Nat} {S:Nat→Prop} {w:World} (hS:∀k,S k→B≤k∧k<E):∀(l:PF) (b o:Nat),KTS S w l b o→KT B E w l b o
 | .nil,_,_,_=>True.intro
 | .cons op nm opt kids rest,b,o,h=>by
  obtain⟨⟨h1,h2,h3,a,c,h4,h5⟩,h6⟩:=h;refine⟨⟨h1,h2,h3,a,c,h4,fun hn=> ?_⟩,KTS.kt hS rest b (o+4) h6⟩;obtain⟨b2,o2,e1,e2,e4⟩:=h5 hn;exact⟨b2,o2,e1,(hS _ e2).1,(hS _ e2).2,KTS.kt hS kids b2 o2 e4⟩
theorem KCS.of {B E:Nat} {w:World} {l:PF} {a:Option Addr} (h:KC B E w l a):KCS (fun k=>B≤k∧k<E) w l a:=fun hn=>by
 obtain⟨b,o,e1,e2,e3,e4⟩:=h hn;exact⟨b,o,e1,⟨e2,e3⟩,KTS.of l b o e4⟩
def KL (S:Nat→Prop) (w:World):PF→List Value→Prop
 | .nil,xs=>xs=[]
 | .cons op nm opt kids rest,xs=>∃a c ys,xs=.int .i64 op::encStr nm:: .bool opt:: .slice a kids.len c::ys∧KCS S w kids a∧KL S w rest ys
theorem KL.len {S:Nat→Prop} {w:World}:∀(l:PF) (xs:List Value),KL S w l xs→xs.length=l.len*4
 | .nil,xs,h=>by
  have h':xs=[]:=h;subst h';rfl
 | .cons op nm opt kids rest,xs,h=>by
  obtain⟨a,c,ys,rfl,_,h2⟩:=h;have:=KL.len rest ys h2;simp only[List.length_cons,this,PF.len];omega
theorem KL.keep {S S':Nat→Prop} {w w':World} (hS:∀k,S k→S' k) (he:∀k,S k→w'.heap[k]? =w.heap[k]?):∀(l:PF) (xs:List Value),KL S w l xs→KL S' w' l xs
 | .nil,xs,h=>h
 | .cons op nm opt kids rest,xs,h=>by
  obtain⟨a,c,ys,rfl,h1,h2⟩:=h;exact⟨a,c,ys,rfl,h1.keep hS he,KL.keep hS he rest ys h2⟩
theorem KL.snoc {S:Nat→Prop} {w:World} {e:PE} {a:Option Addr} {c:Nat} (hk:KCS S w e.kids a):∀(l:PF) (xs:List Value),KL S w l xs→KL S w (l.snoc e) (xs ++ [.int .i64 e.op,encStr e.nm,.bool e.opt,.slice a e.kids.len c])
 | .nil,xs,h=>by
  have h':xs=[]:=h;subst h';exact⟨a,c,[],rfl,hk,rfl⟩
 | .cons op nm opt kids rest,xs,h=>by
  obtain⟨a2,c2,ys,rfl,h1,h2⟩:=h;exact⟨a2,c2,_,rfl,h1,KL.snoc hk rest ys h2⟩
theorem KL.kt {B E:Nat} {S:Nat→Prop} {w:World} (hS:∀k,S k→B≤k∧k<E):∀(l:PF) (xs:List Value) (b o:Nat),KL S w l xs→(∀j u,xs[j]? =some u→w.cell? ⟨b,o+j,none⟩=some u)→KT B E w l b o
 | .nil,xs,b,o,h,hc=>True.intro
 | .cons op nm opt kids rest,xs,b,o,h,hc=>by
  obtain⟨a,c,ys,rfl,h1,h2⟩:=h;refine⟨⟨hc 0 _ rfl,hc 1 _ rfl,hc 2 _ rfl,a,c,hc 3 _ rfl,fun hn=> ?_⟩,KL.kt hS rest ys b (o+4) h2 (fun j u hj=> ?_)⟩
  · obtain⟨b2,o2,e1,e2,e4⟩:=h1 hn;exact⟨b2,o2,e1,(hS _ e2).1,(hS _ e2).2,KTS.kt hS kids b2 o2 e4⟩
  · have:=hc (j+4) u (by simpa using hj);rwa[show o+(j+4)=o+4+j by omega] at this
theorem KL.kc {B E B0:Nat} {S:Nat→Prop} {w:World} {T:TypeId} {l:PF} {xs:List Value} {a:Option Addr} {n c:Nat} (hS:∀k,S k→B≤k∧k<E) (h:KL S w l xs) (hr:w.ownsRow B0 T 4 (.slice a n c) l.len xs) (hB:B≤B0) (hE:w.heap.size≤E):KC B E w l a:=fun hn=>by
 rcases hr.2 with⟨e0,h0⟩ | ⟨g,cap,cur,e0,hg,hgl,_⟩
 · exact absurd (PF.len_zero h0) hn
 · injection e0 with e1
   subst e1;refine⟨g,0,rfl,Nat.le_trans hB hg,Nat.lt_of_lt_of_le (Array.getElem?_eq_some_iff.1 hgl).1 hE,KL.kt hS l xs g 0 h (fun j u hu=> ?_)⟩;have:=hr.cells (g:=g) rfl j u hu;rw[Addr.add_lit,Nat.zero_add] at this;rw[Nat.zero_add];exact this
abbrev exL' (e:PE) (a:Option Addr) (c:Nat):List Value:=[.int .i64 e.op,.string ⟨e.nm.toArray⟩,.bool e.opt,.slice a e.kids.len c]
def KidsIn (B0:Nat) (T:TypeId) (w:World) (acc:PF) (v:Value) (n:Nat):Prop:=
 n=acc.len∧∃xs,w.ownsRow B0 T 4 v n xs∧KL (fun k=>B0≤k∧k<w.heap.size∧some k≠v.ownBlock) w acc xs
theorem KidsIn.nil (B0:Nat) (T:TypeId) (w:World):KidsIn B0 T w .nil (.slice none 0 0) 0:=⟨rfl,[],World.ownsRow_nil _ _ _ _,rfl⟩
theorem KidsIn.keep {B0 n:Nat} {T:TypeId} {w w':World} {acc:PF} {v:Value} (h:KidsIn B0 T w acc v n) (hz:w.heap.size≤w'.heap.size) (he:∀k,B0≤k→k<w.heap.size→w'.heap[k]? =w.heap[k]?):KidsIn B0 T w' acc v n:=by
 obtain⟨hn,xs,h1,h2⟩:=h;exact⟨hn,xs,row_heap h1 (fun k hk=>he k (h1.lt k hk).1 (h1.lt k hk).2),h2.keep (fun k hk=>⟨hk.1,Nat.lt_of_lt_of_le hk.2.1 hz,hk.2.2⟩) (fun k hk=>he k hk.1 hk.2.1)⟩
theorem KidsIn.below {B0 n:Nat} {T:TypeId} {w w':World} {acc:PF} {v:Value} (h:KidsIn B0 T w acc v n) (hb:Below w.heap.size w w'):KidsIn B0 T w' acc v n:=h.keep hb.size (fun k _ hk=>hb.block k hk)
theorem KidsIn.drew {B0 n:Nat} {T:TypeId} {w:World} {acc:PF} {v:Value} (h:KidsIn B0 T w acc v n):KidsIn B0 T w.drew acc v n:=h.below (Below.refl _ _).drew
theorem KidsIn.set {B0 n:Nat} {T:TypeId} {w:World} {acc:PF} {v:Value} (h:KidsIn B0 T w acc v n) {p:Addr} (hp:p.block<B0) (x:Value):KidsIn B0 T (w.setCell p x) acc v n:=
 h.keep (by simp) (fun k hk _=>Below.heap_setCell _ _ _ _ (by omega))
theorem KidsIn.slice {B0 n:Nat} {T:TypeId} {w:World} {acc:PF} {v:Value} (h:KidsIn B0 T w acc v n):∃a c,v=.slice a n c:=by
 obtain⟨_,xs,h1,_⟩:=h;exact row_slice h1
theorem KidsIn.kc {B B0 n c:Nat} {T:TypeId} {w:World} {acc:PF} {a:Option Addr} (h:KidsIn B0 T w acc (.slice a n c) n) (hB:B≤B0):KC B w.heap.size w acc a:=by
 obtain⟨rfl,xs,h1,h2⟩:=h;exact KL.kc (fun k hk=>⟨Nat.le_trans hB hk.1,hk.2.1⟩) h2 h1 hB (Nat.le_refl _)
theorem KidsIn.lt {B0 n:Nat} {T:TypeId} {w:World} {acc:PF} {v:Value} (h:KidsIn B0 T w acc v n) (q:Nat) (hq:v.ownBlock=some q):B0≤q∧q<w.heap.size:=by
 obtain⟨_,xs,h1,_⟩:=h;exact h1.lt q hq
theorem KidsIn.more {B0 B1 n : Nat} {T : TypeId} {w w3 w4 : World} {acc : PF} {v v4 : Value} {e : PE} {a : Option Addr} {c : Nat} {xs : List Value} (hn : n = acc.len) (hrow : w.ownsRow B0 T 4 v n xs) (hkl : KL (fun k => B0 ≤ k ∧ k < w.heap.size ∧ some k ≠ v.ownBlock) w acc xs)
    (hkc:KC B1 w.heap.size w e.kids a) (hB1:B0≤B1) (hvb:∀q,v.ownBlock=some q→q<B1) (h3:w3=w.alloc (.cells (exL' e a c).toArray T)) (hown:w4.ownsRow B0 T 4 v4 (n+1) (xs ++exL' e a c)) (hgrow:w3.grownBy w4 v.ownBlock) (hat:v4.ownBlock=v.ownBlock∨v4.ownBlock=some w3.heap.size):
    KidsIn B0 T w4 (acc.snoc e) v4 (n+1):=by
 have hz3:w3.heap.size=w.heap.size+1:=by rw[h3];simp
 have hz4:w.heap.size+1≤w4.heap.size:=by have:=hgrow.size;omega
 have hch:∀q,q<w.heap.size→some q≠v.ownBlock→w4.heap[q]? =w.heap[q]? :=fun q hq hne=>(hgrow.block q (by omega) hne).trans (by rw[h3];exact((Below.refl w.heap.size w).alloc (Nat.le_refl _) _).block q hq)
 have hS:∀q,(B0≤q∧q<w.heap.size∧some q≠v.ownBlock)→(B0≤q∧q<w4.heap.size∧some q≠v4.ownBlock):=fun q hq=>⟨hq.1,by omega,fun he=>by
   rcases hat with h5 | h5
   · rw[h5] at he;exact hq.2.2 he
   · rw[h5] at he;injection he with he
     have:=hq.2.1;omega⟩
 have hK2:KCS (fun q=>B0≤q∧q<w.heap.size∧some q≠v.ownBlock) w e.kids a:=(KCS.of hkc).keep (fun q hq=>⟨by omega,hq.2,fun he=>by have:=hvb q he.symm;omega⟩) (fun _ _=>rfl);refine⟨by rw[PF.len_snoc,hn],xs ++exL' e a c,hown,?_⟩;exact KL.snoc (hK2.keep hS (fun q hq=>hch q hq.2.1 hq.2.2)) acc xs (hkl.keep hS (fun q hq=>hch q hq.2.1 hq.2.2))
def rHas (c:UInt8):PStr→Option PStr
 | []=>none
 | x::t=>if x=c then some t else none
def rdGo:Nat→Nat→PStr→Option (UInt8×UInt8×PF)→Option (PF×PStr)
 | 0,_,_,_=>none
 | g+1,d,s,none=>
  if 12<d+1 then none else
  match rHas 40 s with
  | some t=>(match rHas 41 t with
    | some u=>(some (PF.nil,u):Option (PF×PStr))
    | none=>rdGo g (d+1) t (some (38,41,.nil))).map (fun(r:PF×PStr)=>(PF.cons 2 [] false r.1 .nil,r.2))
  | none=>
   match rHas 91 s with
   | some t=>(match rHas 93 t with
     | some u=>(some (PF.nil,u):Option (PF×PStr))
     | none=>rdGo g (d+1) t (some (124,93,.nil))).map (fun(r:PF×PStr)=>(PF.cons 3 [] false r.1 .nil,r.2))
   | none=>
    match rHas 63 (s.dropWhile isLet) with
    | some t=>some (.cons 1 (s.takeWhile isLet) true .nil .nil,t)
    | none=>some (.cons 1 (s.takeWhile isLet) false .nil .nil,s.dropWhile isLet)
 | g+1,d,s,some (bt,en,acc)=>
  (rdGo g d s none).bind fun r=>
   match r.1 with
   | .nil=>none
   | .cons o n b k _=>
    match rHas en r.2 with
    | some u=>some (acc.snoc ⟨o,n,b,k⟩,u)
    | none=>(rHas bt r.2).bind fun u=>rdGo g d u (some (bt,en,acc.snoc ⟨o,n,b,k⟩))
abbrev exZ:Array Value:= #[.int .i64 0,.string ⟨#[]⟩,.bool false,.slice none 0 0]
theorem catch_idle_ex (d x e : Addr) (w : World) (hd : w.cell? d = some (.bool true)) :
    CallsD Tryd.prog 30 #[.pointer (some d),.pointer (some x),.pointer (some e)] .returning w fun en u' w'=>en=.returned (.tuple #[])∧u'=.returning∧w'=w:=by
 refine callsD_of_wpS Tryd.func30 rfl fun c₀ cs hu=> ?_
 apply wpS_seq;apply wpS_region;simp[wpOpsS,go_sem,recoverD,hu,Tryd.ntmps30,Exit.thenS];apply wpS_seq;apply wpS_region;simp[wpOpsS,go_sem,hd,Exit.thenS];refine wpS_cond (t:=false) (by simp[Act.eval,Array.replicate]) ?_;simp only[Bool.false_eq_true,if_false];refine wpS_of_wp (wp_skip ?_)
 cases c₀
 simp_all [bodyPostS,results,Tryd.results30]
theorem catch_took_ex (D X E : Nat) (n : Int) (hn : 1 ≤ n ∧ n ≤ 14) (ea : Int → Addr) (older : List PanicEntry) (w : World) (hd : Blk w D #[.bool false]) (hxh : w.heap[X]? = some (.cells exZ 32 (0, 0))) (hz : Blk w E #[.nilIface]) (hne : X ≠ E) (he : Errs ea w) :
    CallsD Tryd.prog 30 #[.pointer (some ⟨D,0,none⟩),.pointer (some ⟨X,0,none⟩),.pointer (some ⟨E,0,none⟩)] (.panicking ({v:=errV (ea n),recovered:=false}::older)) w fun en u' w'=>
     en=.returned (.tuple #[])∧u'=.panicking ({v:=errV (ea n),recovered:=true}::older)∧Blk w' X exZ∧Blk w' E #[errV (ea n)]∧∀m,m≤X→m≤E→m≤w.heap.size→Below m w w':=by
 have HT:=qq (fun W hW=>told_of n hn ea W hW);have HE:=qq he;have hd0:w.cell? ⟨D,0,none⟩=some (.bool false):=hd.cell 0;have hx:Blk w X exZ:=blk_hp hxh;have HXH:=qq hxh;have HZ:=qq hz;have hne2:E≠X:=fun e=>hne e.symm
 clear he hd hx hz hn hxh;refine callsD_of_wpS Tryd.func30 rfl fun c₀ cs hu=> ?_
 apply wpS_seq;apply wpS_region;simp[wpOpsS,go_sem,recoverD,hu,Tryd.ntmps30,Exit.thenS];apply wpS_seq;apply wpS_region;simp[wpOpsS,go_sem,hd0,Exit.thenS];refine wpS_cond (t:=true) (by simp[Act.eval,Array.replicate]) ?_;simp only[if_true];refine wpS_of_wp ?_;go_wp2_with fail
 simp only[Array.replicate_succ,Array.replicate_zero,List.push_toArray,List.nil_append,List.cons_append,List.append_toArray,List.setIfInBounds_toArray,List.set_cons_zero,List.set_cons_succ];have HB0:Below w.heap.size w (w.alloc (.cells exZ 32)):=(Below.refl _ _).alloc (Nat.le_refl _) _
 refine reg_start2 (fun w'=>Blk w' w.heap.size exZ) (fun w'=>Below w.heap.size w w') (by kernel_rfl) (Blk.fresh w exZ 32 _ rfl).drew (bel_drew HB0) ?_;rintro w1 hHeld hb1;refine takeM (d:=some 8) 0 rfl rfl hHeld (fun w' hS'=>by have qA:=hS'.cell;clear hS';go_simp;(try rfl)) ?_;simp only[puts];refine takeM (d:=some 9) 1 rfl rfl hHeld (fun w' hS'=>by clear hS';go_simp;(try rfl)) ?_;simp only[puts]
 refine one_M 2 (by kernel_rfl) ?_;refine wpOp_call (d:=some 10) 2 25 _ _ [errV (ea n)] rfl rfl rfl (enters_of Tryd.func25 (by kernel_rfl) rfl) (by rfl) (by rfl) ?_;refine(HT.out _ (HE.out.below hb1)).mono ?_;rintro e w2 ⟨rfl,hb2⟩;have hb12:=below_then hb1 hb2;refine ret_S (hHeld.below hb2) (fun hHeld=> ?_);simp only[puts];refine one_M 3 (by kernel_rfl) ?_
 refine row_M 3 32 _ _ rfl rfl rfl X exZ exZ 32 (hp_be HXH.out hb12) rfl rfl (by kernel_rfl) rfl (by simp[exZ,Value.oneCell']) ?_;intro w3 hx3 hg3;have hXl:=(Array.getElem?_eq_some_iff.1 HXH.out).1;have hZ3:Blk w3 E #[.nilIface]:=(HZ.out.below hb12).gr hg3 hne;refine⟨hHeld.gr hg3 (by omega),fun hHeld=> ?_⟩;have z0:w3.cell? ⟨E,0,none⟩=some .nilIface:=hZ3.cell 0
 have z1:w3.frozen? ⟨E,0,none⟩=false:=hZ3.free 0;refine last_S 4 (w3.setCell ⟨E,0,none⟩ (errV (ea n))) rfl rfl (by clear hHeld;go_simp;(try rfl)) ?_;have hx4:Blk (w3.setCell ⟨E,0,none⟩ (errV (ea n))) X exZ:=hx3.same (by simp) (Below.heap_setCell _ _ _ _ hne);have hz4:Blk (w3.setCell ⟨E,0,none⟩ (errV (ea n))) E #[errV (ea n)]:=by
  have:=hZ3.set' 0 (by simp) (errV (ea n));simpa using this
 have hb4:∀m,m≤X→m≤E→m≤w.heap.size→Below m w (w3.setCell ⟨E,0,none⟩ (errV (ea n))):=fun m h1 h2 h3=>((hb12.mono h3).grown hg3 (Nat.le_trans h3 hb12.size) (fun j hj=>by injection hj with hj;omega)).setCell (p:=⟨E,0,none⟩) h2 _
 generalize w3.setCell ⟨E,0,none⟩ (errV (ea n))=w4 at*;clear hHeld;go_wp2_with fail;simp[bodyPostS,results,Tryd.results30];exact⟨hx4,hz4,hb4⟩
theorem try_gives_ex (p : Addr) (e0 : PE) (Rl : Option Addr → World → Prop) (w : World) (h : ∀ W, Below w.heap.size w W → w.heap.size + 3 ≤ W.heap.size → Calls Tryd.prog 18 #[.pointer (some p)] W (fun e w' => ∃ a c, e = .returned (.agg (exA e0 a c)) ∧ Rl a w' ∧ Below W.heap.size W w'))
    (hR:∀a (W W':World),Rl a W→W.heap.size≤W'.heap.size→(∀k,k<W.heap.size→k<w.heap.size∨w.heap.size+3≤k→W'.heap[k]? =W.heap[k]?)→Rl a W'):
    Calls Tryd.prog 17 #[.func (.func 18) #[] #[.pointer (some p)]] w (fun e w'=>∃a c,e=.returned (.tuple #[.agg (exA e0 a c),.nilIface])∧Rl a w'∧Below w.heap.size w w'):=by
 have hmf:∀(fn:Fn) (first cap:Array Value) (w:World),(Instr.makeFunc fn first cap).run Tryd.prog w=.ok (.func fn first cap) w:=fun _ _ _ _=>rfl
 have H:=qq h;have HRL:=qq hR;clear h hR;go_enter_defers Tryd.func17,Tryd.ntmps17;go_wp2_with fail;refine(H.out _ (by go_grown) (by simp)).mono ?_;rintro e w1 ⟨va,vc,rfl,hrl,hb1⟩;have hb01:Below w.heap.size w w1:=below_then (by go_grown) hb1;have hxh:w1.heap[w.heap.size]? =some (.cells exZ 32 (0,0)):=(hb1.block _ (by simp;omega)).trans (hp_al (hp_al (hp_new _ rfl) _) _)
 have HE:=(((Blk.fresh (w.alloc (.cells exZ 32)) #[.nilIface] 27 (w.heap.size+1) (by simp)).below (by go_grown)).below hb1:Blk w1 (w.heap.size+1) _)
 have HD:=((Blk.fresh ((w.alloc (.cells exZ 32)).alloc (.cells #[.nilIface] 27)) #[.bool false] 4 (w.heap.size+1+1) (by simp)).below hb1:Blk w1 (w.heap.size+1+1) _)
 have HXH:=qq hxh;have HEE:=qq HE;have HDD:=qq HD;have HB1:=qq hb01;have HRR:=qq hrl;clear hxh HE HD hrl hb1 hb01;have hsz1:=HB1.out.size;obtain⟨OP,nm,opt,kids⟩:=e0;unfold exA;dsimp only;go_wp2_with (refine row_go 32 (.tmp 2) (.tmp 7) rfl rfl w.heap.size #[.int .i64 OP,.string ⟨nm.toArray⟩,.bool opt,.slice va kids.len vc] exZ 32 HXH.out rfl rfl (by kernel_rfl) rfl (by simp[Value.oneCell']) ?_)
 intro w2 hx2 hg2;have HE2:=qq (HEE.out.gr hg2 (by omega));have HD2:=qq (HDD.out.gr hg2 (by omega));obtain⟨lx,qx,fx⟩:=hx2;have x0:w2.cell? ⟨w.heap.size,0,none⟩=some (.int .i64 OP):=qx 0;have x1:w2.cell? ⟨w.heap.size,1,none⟩=some (.string ⟨nm.toArray⟩):=qx 1;have x2:w2.cell? ⟨w.heap.size,2,none⟩=some (.bool opt):=qx 2;have x3:w2.cell? ⟨w.heap.size,3,none⟩=some (.slice va kids.len vc):=qx 3
 have y0:w2.frozen? ⟨w.heap.size,0,none⟩=false:=fx 0;have y1:w2.frozen? ⟨w.heap.size,1,none⟩=false:=fx 1;have y2:w2.frozen? ⟨w.heap.size,2,none⟩=false:=fx 2;have y3:w2.frozen? ⟨w.heap.size,3,none⟩=false:=fx 3;have e0:w2.cell? ⟨w.heap.size+1,0,none⟩=some .nilIface:=HE2.out.cell 0;have e1:w2.frozen? ⟨w.heap.size+1,0,none⟩=false:=HE2.out.free 0
 have d0:w2.cell? ⟨w.heap.size+1+1,0,none⟩=some (.bool false):=HD2.out.cell 0;have d1:w2.frozen? ⟨w.heap.size+1+1,0,none⟩=false:=HD2.out.free 0;clear qx fx;go_wp2_with fail;refine leaves_cons (f:=30) (args:= #[.pointer (some ⟨w.heap.size+1+1,0,none⟩),.pointer (some ⟨w.heap.size,0,none⟩),.pointer (some ⟨w.heap.size+1,0,none⟩)]) (by simp) (by simp[go_sem]) ?_
 refine(catch_idle_ex _ _ _ _ (by simp[go_sem,d0,x0,e0])).mono ?_;rintro e u' w'' ⟨rfl,rfl,rfl⟩;simp[Leaves,settle,results,Tryd.results17,go_sem,d0,x0,x1,x2,x3,e0,d1,y0,y1,y2,y3,e1,exA];refine⟨HRL.out _ _ _ HRR.out (by have:=hg2.size;simpa using this) (fun k hkl hk=> ?_),?_⟩
 · rw[Below.heap_setCell _ _ _ _ (by(try dsimp only);omega),Below.heap_setCell _ _ _ _ (by(try dsimp only);omega),Below.heap_setCell _ _ _ _ (by(try dsimp only);omega),Below.heap_setCell _ _ _ _ (by(try dsimp only);omega),Below.heap_setCell _ _ _ _ (by(try dsimp only);omega),Below.heap_setCell _ _ _ _ (by(try dsimp only);omega)];exact hg2.block k hkl (fun e=>by injection e with e;omega)
 · exact((((((bel_gr HB1.out hg2 (Nat.le_refl _)).setCell (p:=⟨w.heap.size+1+1,0,none⟩) (by dsimp only;omega) _).setCell (p:=⟨w.heap.size,0,none⟩) (Nat.le_refl _) _).setCell (p:=⟨w.heap.size,1,none⟩) (Nat.le_refl _) _).setCell (p:=⟨w.heap.size,2,none⟩) (Nat.le_refl _) _).setCell (p:=⟨w.heap.size,3,none⟩) (Nat.le_refl _) _).setCell (p:=⟨w.heap.size+1,0,none⟩) (by dsimp only;omega) _
theorem try_dies_ex (p : Addr) (n : Int) (hn : 1 ≤ n ∧ n ≤ 14) (ea : Int → Addr) (w : World) (he : Errs ea w) (h : ∀ W, Below w.heap.size w W → Calls Tryd.prog 18 #[.pointer (some p)] W (Fails (errV (ea n)) W)) :
    Calls Tryd.prog 17 #[.func (.func 18) #[] #[.pointer (some p)]] w (Makes (.tuple #[.agg exZ,errV (ea n)]) w):=by
 have hmf:∀(fn:Fn) (first cap:Array Value) (w:World),(Instr.makeFunc fn first cap).run Tryd.prog w=.ok (.func fn first cap) w:=fun _ _ _ _=>rfl
 have H:=qq h;have HR:=qq he;clear h he;go_enter_defers Tryd.func17,Tryd.ntmps17;go_wp2_with fail;refine(H.out _ (by go_grown)).mono ?_;rintro e w1 ⟨rfl,hb1⟩;have HB:Below w.heap.size w w1:=below_then (by go_grown) hb1;have hxh:w1.heap[w.heap.size]? =some (.cells exZ 32 (0,0)):=(hb1.block _ (by simp;omega)).trans (hp_al (hp_al (hp_new _ rfl) _) _)
 have HE:=(((Blk.fresh (w.alloc (.cells exZ 32)) #[.nilIface] 27 (w.heap.size+1) (by simp)).below (by go_grown)).below hb1:Blk w1 (w.heap.size+1) _)
 have HD:=((Blk.fresh ((w.alloc (.cells exZ 32)).alloc (.cells #[.nilIface] 27)) #[.bool false] 4 (w.heap.size+1+1) (by simp)).below hb1:Blk w1 (w.heap.size+1+1) _)
 have HER:=HR.out.below HB;refine leaves_cons (f:=30) (args:= #[.pointer (some ⟨w.heap.size+1+1,0,none⟩),.pointer (some ⟨w.heap.size,0,none⟩),.pointer (some ⟨w.heap.size+1,0,none⟩)]) (by simp) (by simp[go_sem]) ?_;refine(catch_took_ex _ _ _ n hn ea _ _ HD hxh HE (by omega) HER).mono ?_;rintro e u' w'' ⟨rfl,rfl,hx2,he2,hb2⟩;have x0:w''.cell? ⟨w.heap.size,0,none⟩=some (.int .i64 0):=hx2.cell 0
 have x1:w''.cell? ⟨w.heap.size,1,none⟩=some (.string ⟨#[]⟩):=hx2.cell 1;have x2:w''.cell? ⟨w.heap.size,2,none⟩=some (.bool false):=hx2.cell 2;have x3:w''.cell? ⟨w.heap.size,3,none⟩=some (.slice none 0 0):=hx2.cell 3;have e2:w''.cell? ⟨w.heap.size+1,0,none⟩=some (errV (ea n)):=he2.cell 0;simp[Leaves,settle,results,Tryd.results17,go_sem,x0,x1,x2,x3,e2,exZ]
 exact⟨rfl,HB.trans (hb2 _ (Nat.le_refl _) (by omega) HB.size)⟩
def ExGives (e:PE) (w:World) (en:Ending) (w':World):Prop:=
 ∃a c,en=.returned (.agg (exA e a c))∧KC w.heap.size w'.heap.size w' e.kids a∧Below w.heap.size w w'
end Go.Proofs.YtbepkpjcjpmpmaaDoor
