/- PolH, PolI, PolJ, PolS -/
import Derived.Test.YtbepkpjcjpmpmaaGreatDoorAPolF3ToPolG
import Derived.Ground.SlsfProg
import Derived.Shelf.SlSortCmp.Whole1
import Derived.Shelf.SlSortCmp.NoneTotal
import Derived.Shelf.Lay
set_option linter.unusedSimpArgs false
set_option linter.unusedVariables false
set_option maxRecDepth 100000
set_option maxHeartbeats 16000000
namespace Go.Proofs.YtbepkpjcjpmpmaaGreatDoor
open Go.RowKit Go.Shelf
shelf_lay_g SlLaysF.n6 Slsf 6 at Tryz 78 as shSortF
def AltAt (BA:Nat) (w:World):Type:={p:Value×PAlt // AltV BA w p.1 p.2∧p.2.length≤1000}
instance (BA:Nat) (w:World):Inhabited (AltAt BA w):=⟨⟨(.slice none 0 0,[]),World.ownsRow_nil _ _ _ _,by simp⟩⟩
def altE (BA:Nat) (w:World) (p:AltAt BA w):Value:=p.1.1
def altS (BA:Nat) (w:World) (p:AltAt BA w):PAlt:=p.1.2
def altC (BA:Nat) (w:World) (p q:AltAt BA w):Int:=cmpT ltA p.1.2 q.1.2
def mkAlt (BA:Nat) (w:World) (x:Value) (s:PAlt) (h1:AltV BA w x s) (h2:s.length≤1000):AltAt BA w:=⟨(x,s),h1,h2⟩
theorem altE_one (BA:Nat) (w:World):OneCell (altE BA w):=fun p=>by
 obtain⟨a,c,h⟩:=row_slice p.2.1;unfold altE;rw[h];rfl
theorem cmp_neg {α:Type} {lt:α→α→Bool} (a b:α):decide (cmpT lt a b<0)=lt a b:=by
 unfold cmpT
 cases lt a b
 · cases lt b a<;>simp
 · simp
theorem altC_lt (BA:Nat) (w:World) (p q:AltAt BA w):ltOf (altC BA w) p q=ltA (altS BA w p) (altS BA w q):=cmp_neg _ _
theorem altC_swo (BA:Nat) (w:World):Go.Sort.SWO (ltOf (altC BA w)):=by
 refine⟨fun x=> ?_,fun x y z h1 h2=> ?_,fun x y z h1 h2=> ?_⟩
 · rw[altC_lt,toA.irr]
 · rw[altC_lt] at*;exact toA.tr _ _ _ h1 h2
 · rw[altC_lt] at*;exact toA.ltr _ _ _ h2 h1
theorem sortWorld_grown {α:Type} (enc:α→Value) (w:World) (g m:Nat) [Inhabited α] (dk:Array α) (os:Array Obj):w.grownBy (sortWorld enc w g 0 m dk os) (some g):=by
 unfold sortWorld;refine⟨rfl,rfl,rfl,by simp[Sort.putRow,Sort.mapBlock,Sort.ahead],fun k hk hne=> ?_⟩;rw[Sort.heap_grow_old _ _ (by simpa[Sort.putRow,Sort.mapBlock,Sort.ahead] using hk)];have:g≠k:=fun e=>hne (by rw[e])
 simp[Sort.putRow,Sort.mapBlock,Sort.ahead,Array.getElem?_modify,this]
theorem sortF_of (B BA g cap n : Nat) (vs : Array Value) (d : Array PAlt) (w : World) (h : w.ownsRow B 71 1 (.slice (some ⟨g, 0, none⟩) n cap) n vs.toList) (hA : Alts BA w vs d) (hn : n ≤ 100000) (hl : ∀ i, i < d.size → d[i]!.length ≤ 1000) :
    Calls Tryz.prog 78 #[.slice (some ⟨g,0,none⟩) n cap,.func (.func 79) #[] #[]] w (fun e w'=>e=.returned (.tuple #[])∧w.grownBy w' (some g)∧∃(vs':Array Value) (d':Array PAlt),w'.ownsRow B 71 1 (.slice (some ⟨g,0,none⟩) n cap) n vs'.toList∧Alts BA w vs' d'∧d'.toList.Perm d.toList∧∀i j,i<j→j<d'.size→ltA d'[j]! d'[i]! =false):=by
 have hvs:vs.size=n:=by have:=h.1;simpa using this
 have hds:d.size=n:=by rw[←hA.1];exact hvs
 obtain⟨ps,hsz,hpe,hpd⟩:∃ps:Array (AltAt BA w),ps.size=n∧(∀i (h:i<ps.size),altE BA w ps[i]=vs[i]!)∧∀i (h:i<ps.size),altS BA w ps[i]=d[i]! :=by
  refine⟨Array.ofFn (fun i:Fin n=>mkAlt BA w vs[i.1]! d[i.1]! (hA.2 i.1 (by rw[hds];exact i.2)) (hl i.1 (by rw[hds];exact i.2))),by simp,fun i h=> ?_,fun i h=> ?_⟩
  · rw[Array.getElem_ofFn];rfl
  · rw[Array.getElem_ofFn];rfl
 have hE:ps.toList.map (altE BA w)=vs.toList:=by
  apply List.ext_getElem
  · simp[hsz,hvs]
  · intro i h1 h2;have hi:i<vs.size:=by simpa using h2
    rw[List.getElem_map,Array.getElem_toList,hpe i (by omega),getElem!_pos vs i hi,Array.getElem_toList]
 have hS:ps.toList.map (altS BA w)=d.toList:=by
  apply List.ext_getElem
  · simp[hsz,hds]
  · intro i h1 h2;have hi:i<d.size:=by simpa using h2
    rw[List.getElem_map,Array.getElem_toList,hpd i (by omega),getElem!_pos d i hi,Array.getElem_toList]
 have hrow:w.ownsRow B 71 1 (.slice (some ⟨g,0,none⟩) n cap) n (ps.toList.map (altE BA w)):=by rw[hE];exact h
 obtain⟨g',cap',e1,hg,hgl,hnc,hcm,hlen,hH⟩:=Lib.holds_of_ownsRow (enc:=altE BA w) hrow (by simp);injection e1 with e1 _ e3
 injection e1 with e1
 injection e1 with e1
 subst e1 e3;rw[Array.toArray_toList] at hH;have hc:CmpLays1 Tryz.prog 79 #[] (altE BA w) (altC BA w) g 0 ps.size w:=fun m os dk hdk x y=>by
  have hgr:=sortWorld_grown (altE BA w) w g m dk os;have:=less1_of BA BA x.1.1 y.1.1 x.1.2 y.1.2 (sortWorld (altE BA w) w g 0 m dk os) (alt_gr x.2.1 hgr h rfl) (alt_gr y.2.1 hgr h rfl) x.2.2 y.2.2;refine this.mono ?_;rintro e w' ⟨rfl,rfl⟩;exact⟨rfl,0,#[],by rw[Sort.grow_empty];rfl⟩
 have:=Any.slices_SortFunc shSortF (altE BA w) (altE_one BA w) (altC BA w) (altC_swo BA w) 79 #[] g 0 cap ps w (enters_of Tryz.func79 (by kernel_rfl) rfl) hc hH hgl (by omega);rw[hsz] at this;refine this.mono ?_;rintro e w' ⟨rfl,d',q,os,hp,hs,rfl⟩;have hd':d'.size=n:=by rw[hp.1,hsz]
 have ho:=Lib.ownsRow_putRow (q:=q) (ys:=d'.toList) (k:=n) hrow (by simp[hd']) (Nat.le_refl _);rw[List.take_of_length_le (by simp[hd']),Array.toArray_toList] at ho;have hgr:=sortWorld_grown (altE BA w) w g q d' os;refine⟨rfl,hgr,d'.map (altE BA w),d'.map (altS BA w),?_,⟨by simp,fun i hi=> ?_⟩,?_,fun i j hij hj=> ?_⟩
 · rw[Array.toList_map];unfold sortWorld;exact row_heap ho (fun k hk=>Sort.heap_grow_old _ _ (ho.lt k hk).2)
 · have hi':i<d'.size:=by simpa using hi
   have:=d'[i].2.1;simpa[altE,altS,hi'] using this
 · rw[←hS,Array.toList_map];refine List.Perm.map _ ?_;have h3:=hp.2.2;rw[←hsz] at h3;have e1:ps.extract 0 ps.size=ps:=by simp
   have e2:d'.extract 0 ps.size=d':=by rw[hsz,←hd'];simp
   rw[e1,e2] at h3;exact h3
 · have hj':j<d'.size:=by simpa using hj
   have hi':i<d'.size:=by omega
   have:=hs i j (Nat.zero_le _) hij (by omega);rw[altC_lt,getElem!_pos d' j hj',getElem!_pos d' i hi'] at this;simpa[hi',hj'] using this
theorem sortF_nil (fv:Value) (w:World):Calls Tryz.prog 78 #[.slice none 0 0,fv] w (fun e w'=>e=.returned (.tuple #[])∧w'=w):=
 AnyF.slices_SortFunc_none {shSortF with} none 0 fv w
open Go.Lib (keeps compactUpTo)
def AltsV (T:TypeId) (B:Nat) (w:World) (v:Value) (l:List PAlt):Prop:=∃vs:Array Value,w.ownsRow B T 1 v l.length vs.toList∧Alts B w vs l.toArray
theorem AltsV.row {T:TypeId} {B:Nat} {w:World} {v:Value} {l:List PAlt} (h:AltsV T B w v l):∃a c,v=.slice a l.length c:=by
 obtain⟨vs,h1,_⟩:=h;exact row_slice h1
theorem AltsV.nil (T:TypeId) (B:Nat) (w:World):AltsV T B w (.slice none 0 0) []:=⟨#[],World.ownsRow_nil _ _ _ _,rfl,fun i hi=>by simp at hi⟩
theorem Alts.base {B B':Nat} {w:World} {vs:Array Value} {d:Array PAlt} (h:Alts B' w vs d) (hB:B≤B'):Alts B w vs d:=⟨h.1,fun i hi=>row_base (h.2 i hi) hB⟩
theorem Alts.keep {B:Nat} {w w':World} {vs:Array Value} {d:Array PAlt} (h:Alts B w vs d) (hb:∀k,k<w.heap.size→w'.heap[k]? =w.heap[k]?):Alts B w' vs d:=⟨h.1,fun i hi=>row_heap (h.2 i hi) (fun k hk=>hb k ((h.2 i hi).lt k hk).2)⟩
theorem AltsV.below {T:TypeId} {B:Nat} {w w':World} {v:Value} {l:List PAlt} (h:AltsV T B w v l) (hb:Below w.heap.size w w'):AltsV T B w' v l:=by
 obtain⟨vs,h1,h2⟩:=h;exact⟨vs,row_be h1 hb,h2.keep hb.block⟩
theorem AltsV.base {T:TypeId} {B B':Nat} {w:World} {v:Value} {l:List PAlt} (h:AltsV T B' w v l) (hB:B≤B'):AltsV T B w v l:=by
 obtain⟨vs,h1,h2⟩:=h;exact⟨vs,row_base h1 hB,h2.base hB⟩
theorem comp_alts (d:Array PAlt) (l:List PAlt) (hp:d.toList.Perm l) (hs:∀i j,i<j→j<d.size→ltA d[j]! d[i]! =false):compactUpTo d d.size=uni ltA [] l:=by
 obtain⟨h1,h2⟩:=comp_ris toA d hs d.size (Nat.le_refl _);refine uni_eq toA h1 (fun x=> ?_);rw[h2,←hp.mem_iff];constructor
 · rintro⟨j,hj,rfl⟩;rw[getElem!_pos d j hj];simp
 · intro hx;obtain⟨j,hj,e⟩:=List.getElem_of_mem hx;have hj':j<d.size:=by simpa using hj
   exact⟨j,hj',by rw[getElem!_pos d j hj'];simpa using e⟩
theorem compactF_nil (fv:Value) (w:World):Calls Tryz.prog 81 #[.slice none 0 0,fv] w (fun e w'=>e=.returned (.slice none 0 0)∧w=w'):=by
 go_enter Tryz.func81,Tryz.ntmps81;go_wp2_with fail;go_ret;exact⟨rfl,rfl⟩
def SortEnds (T:TypeId) (B:Nat) (l:List PAlt) (ea:Int→Addr) (w0:World) (e:Ending) (w':World):Prop:=
 ((uni ltA [] l).length≤64→∃v',e=.returned v'∧AltsV T B w' v' (uni ltA [] l)∧Below w0.heap.size w0 w')∧
 (64<(uni ltA [] l).length→e=.panicked [{v:=errV (ea 6),recovered:=false}]∧Below w0.heap.size w0 w')
theorem sorted_of (B : Nat) (v : Value) (l : List PAlt) (ea : Int → Addr) (w0 w : World) (h : AltsV 71 B w v l) (hn : l.length ≤ 50000) (hl : ∀ a ∈ l, a.length ≤ 1000) (hE : Errs ea w0) (hb : Below w0.heap.size w0 w) (hB : w0.heap.size ≤ B) :
    Calls Tryz.prog 53 #[v] w (SortEnds 71 B l ea w0):=by
 have HYES:Hid ((uni ltA [] l).length≤64→∀v' w',AltsV 71 B w' v' (uni ltA [] l)→Below w0.heap.size w0 w'→SortEnds 71 B l ea w0 (.returned v') w'):=qq (fun h v' w' a1 a2=>⟨fun _=>⟨v',rfl,a1,a2⟩,fun h2=>absurd h (by omega)⟩)
 have HNO:Hid (64<(uni ltA [] l).length→∀w',Below w0.heap.size w0 w'→SortEnds 71 B l ea w0 (.panicked [{v:=errV (ea 6),recovered:=false}]) w'):=qq (fun h w' a2=>⟨fun h2=>absurd h (by omega),fun _=>⟨rfl,a2⟩⟩);generalize SortEnds 71 B l ea w0=R at*;have HGE:Hid (∀W,Below w0.heap.size w0 W→W.cell? ⟨5,0,none⟩=some (errV (ea 6))):=qq (fun W hW=>(hE.below hW).e6);clear hE;obtain⟨vs,h1,hA⟩:=h
 by_cases hv:v=.slice none 0 0
 · subst hv;have hl0:l=[]:=by
    obtain⟨a,cap,hv⟩:=row_slice h1;injection hv with _ hv _
    exact List.length_eq_zero_iff.1 hv.symm
   subst hl0;have hg:=HGE.out _ hb;have gz:=cell_lt hg;have HS:=qq (sortF_nil (.func (.func 79) #[] #[]) w);have HC:=qq (compactF_nil (.func (.func 82) #[] #[]) w);have HB:=qq hb;clear h1 hA hn hl hb;go_enter Tryz.func53,Tryz.ntmps53;go_wp2_with fail;refine HS.out.mono ?_;rintro e w1 ⟨rfl,rfl⟩;go_wp2_with fail;refine HC.out.mono ?_;rintro e w1 ⟨rfl,rfl⟩;go_wp2_with fail
   refine(fail_yes _ _).mono ?_;rintro e w1 ⟨rfl,rfl⟩;go_wp2_with fail
   (try go_ret)
   exact HYES.out (by simp[uni]) _ _ (AltsV.nil _ _ _) HB.out
 · obtain⟨g,cap,e0,hgb⟩:∃g cap,v=.slice (some ⟨g,0,none⟩) l.length cap∧B≤g:=by
    rcases h1.2 with⟨e0,_⟩ | ⟨g,cap,cur,e0,hg,_⟩
    · exact absurd e0 hv
    · exact⟨g,cap,e0,hg⟩
   subst e0;obtain⟨n,hnn⟩:∃n,n=l.length:=⟨_,rfl⟩
   have hl2:∀i,i<l.toArray.size→l.toArray[i]!.length≤1000:=fun i hi=>by
    rw[getElem!_pos l.toArray i hi];exact hl _ (by simp)
   rw[←hnn] at h1 hn⊢;have HS:=qq (sortF_of B B g cap n vs l.toArray w h1 hA (by omega) hl2);have HN:=qq hnn;have HB:=qq hb;have HL:=qq hl;have H1:=qq h1;have HW0:=qq hB;clear h1 hA hl hl2 hb hnn hv;go_enter Tryz.func53,Tryz.ntmps53;go_wp2_with fail;refine HS.out.mono ?_;rintro e w1 ⟨rfl,hg1,vs1,d1,ho1,hA1,hp1,hs1⟩;have hm1:∀i,i<d1.size→d1[i]!.length≤1000:=fun i hi=>by
    rw[getElem!_pos d1 i hi];refine HL.out _ ?_;have:d1[i]∈d1.toList:=by simp
    simpa using(hp1.mem_iff.1 this)
   have HC:=qq (compactF_of B B g cap n vs1 d1 w1 ho1 ⟨hA1.1,fun i hi=>alt_gr (hA1.2 i hi) hg1 H1.out rfl⟩ (by omega) hm1);have hd1:compactUpTo d1 d1.size=uni ltA [] l:=comp_alts d1 l (by simpa using hp1) hs1;rw[hd1] at HC;obtain⟨s,hs⟩:∃s,s=uni ltA [] l:=⟨_,rfl⟩
   rw[←hs] at HC HYES HNO;have HB1:Hid (Below w0.heap.size w0 w1):=qq (HB.out.grown hg1 HB.out.size (fun j hj=>by injection hj with hj;omega));have HRow:=qq ho1;clear hg1 ho1 hA1 hp1 hs1 hm1 hd1 hs HS;obtain⟨k,hk⟩:∃k,k=s.length:=⟨_,rfl⟩
   rw[←hk] at HC HYES HNO;have HK:=qq hk;clear hk;go_wp2_with fail;refine HC.out.mono ?_;rintro e w2 ⟨rfl,hkn,hg2,vs2,hz2,ho2,hA2⟩;have HB2:Hid (Below w0.heap.size w0 w2):=qq (HB1.out.grown hg2 HB1.out.size (fun j hj=>by injection hj with hj;omega));have HFIN:Hid (AltsV 71 B w2 (.slice (some ⟨g,0,none⟩) k cap) s):=qq (by
     refine⟨(vs2.toList.take k).toArray,?_,?_,fun i hi=> ?_⟩
     · rw[←HK.out];exact row_cut ho2 hkn
     · simp[HK.out.symm,hz2];omega
     · have hi':i<k:=by rw[HK.out];simpa using hi
       obtain⟨t,h1,h2⟩:=hA2 i hi';have e1:s.toArray[i]! =t:=by
         rw[getElem!_pos s.toArray i hi];obtain⟨_,h3⟩:=List.getElem?_eq_some_iff.1 h1;simpa using h3
       have e2:(vs2.toList.take k).toArray[i]! =vs2[i]! :=by
         rw[getElem!_pos _ i (by simp[hz2];omega),getElem!_pos vs2 i (by omega)];simp
       rw[e1,e2];exact alt_gr h2 hg2 HRow.out rfl)
   have hg:=HGE.out _ HB2.out;have gz:=cell_lt hg;clear hg2 ho2 hA2 hz2;by_cases h64:k≤64
   · have h64':(k:Int)≤64:=by omega
     go_wp2_with fail;refine(fail_yes _ _).mono ?_;rintro e w3 ⟨rfl,rfl⟩;go_wp2_with fail
     (try go_ret)
     exact HYES.out h64 _ _ HFIN.out HB2.out
   · have h64':decide ((k:Int)≤64)=false:=by rw[decide_eq_false_iff_not];omega
     go_wp2_with fail;refine(fail_no _ _).mono ?_;rintro e w3 ⟨rfl,rfl⟩;exact⟨rfl,HNO.out (by omega) _ HB2.out⟩
theorem infoAlt:(Tryz.prog.info? 71).map (fun i=>(i.zero,i.size,i.bytes))=some (some (.slice none 0 0),1,24):=by kernel_rfl
theorem alt_gro {T:TypeId} (hT:T≠9) {B B2:Nat} {w w':World} {x v:Value} {s:PAlt} {n:Nat} {xs:List Value} (h:AltV B w x s) (hg:w.grownBy w' v.ownBlock) (hr:w.ownsRow B2 T 1 v n xs):AltV B w' x s:=by
 refine row_heap h (fun k hk=>hg.block k (h.lt k hk).2 ?_);rintro e;rcases h.2 with⟨e0,_⟩ | ⟨g1,c1,cur1,rfl,_,hg1,_⟩
 · subst e0;cases hk
 · injection hk with hk
   dsimp only at hk;subst hk;rcases hr.2 with⟨e0,_⟩ | ⟨g2,c2,cur2,rfl,_,hg2,_⟩
   · subst e0;cases e
   · injection e with e
     dsimp only at e;subst e;rw[hg1] at hg2;injection hg2 with hg2
     injection hg2 with _ ht
     exact hT ht.symm
theorem alts_snoc {T : TypeId} (hT : T ≠ 9) {w w1 : World} {B : Nat} {v v' x : Value} {o : List PAlt} {vs : Array Value} {s : PAlt} (hrow : w.ownsRow B T 1 v o.length vs.toList) (hA : Alts B w vs o.toArray) (hx : AltV B w x s) (hg : w.grownBy w1 v.ownBlock)
    (hown:w1.ownsRow B T 1 v' (o.length+1) (vs.toList ++ [x])):AltsV T B w1 v' (o ++ [s]):=by
 have hsz:vs.size=o.length:=by have:=hA.1;simpa using this
 refine⟨(vs.toList ++ [x]).toArray,by rw[List.length_append];exact hown,by simp[hsz],fun i hi=> ?_⟩;have hi':i<o.length+1:=by simpa using hi
 by_cases h:i<o.length
 · have e1:(vs.toList ++ [x]).toArray[i]! =vs[i]! :=by
    rw[getElem!_pos _ i (by simp;omega),getElem!_pos vs i (by omega)];simp[List.getElem_append,hsz,h]
   have e2:(o ++ [s]).toArray[i]! =o.toArray[i]! :=by
    rw[getElem!_pos _ i (by simp;omega),getElem!_pos o.toArray i (by simpa using h)];simp[List.getElem_append,h]
   rw[e1,e2];exact alt_gro hT (hA.2 i (by simpa using h)) hg hrow
 · obtain rfl:i=o.length:=by omega
   have e1:(vs.toList ++ [x]).toArray[o.length]! =x:=by
    rw[getElem!_pos _ _ (by simp[hsz])];simp[List.getElem_append,hsz]
   have e2:(o ++ [s]).toArray[o.length]! =s:=by
    rw[getElem!_pos _ _ (by simp)];simp
   rw[e1,e2];exact alt_gro hT hx hg hrow
theorem each_len (a b:List PAlt):(pEach a b).length=a.length*b.length:=by
 unfold pEach
 induction a with
 | nil=>simp
 | cons x t ih=>rw[List.flatMap_cons,List.length_append,ih,List.length_map,List.length_cons,Nat.add_mul];omega
theorem alts_at {T:TypeId} {B:Nat} {w:World} {v:Value} {l:List PAlt} (h:AltsV T B w v l) (i:Nat) (s:PAlt) (hs:l[i]? =some s):∃g a c cap,v=.slice (some ⟨g,0,none⟩) l.length cap∧AltV B w (.slice a s.length c) s∧(∀W,Below w.heap.size w W→W.cell? ⟨g,i,none⟩=some (.slice a s.length c))∧g<w.heap.size:=by
 obtain⟨vs,h1,h2⟩:=h;obtain⟨hi,he⟩:=List.getElem?_eq_some_iff.1 hs;have hsz:vs.size=l.length:=by have:=h2.1;simpa using this
 obtain⟨g,cap,rfl,_,_,hg,hc,_⟩:=row_form h1 (by omega);have hx:=h2.2 i (by simpa using hi);have e1:l.toArray[i]! =s:=by rw[getElem!_pos _ i (by simpa using hi)];simpa using he
 rw[e1] at hx;obtain⟨a,c,e2⟩:=row_slice hx;rw[e2] at hx;refine⟨g,a,c,cap,rfl,hx,fun W hW=> ?_,hg⟩;have:=hc i vs[i]! (by rw[Array.getElem?_toList,getElem!_pos vs i (by omega),Array.getElem?_eq_getElem (by omega)]);rw[e2] at this;exact(hW.cell hg).trans this
theorem each_of (Ba Bb : Nat) (va vb : Value) (la lb : List PAlt) (w : World) (ha : AltsV 71 Ba w va la) (hb : AltsV 71 Bb w vb lb) (hla : la.length ≤ 200) (hlb : lb.length ≤ 200) (hma : ∀ a ∈ la, a.length ≤ 400) (hmb : ∀ a ∈ lb, a.length ≤ 400) :
    Calls Tryz.prog 54 #[va,vb] w (fun e w'=>∃v',e=.returned v'∧AltsV 71 w.heap.size w' v' (pEach la lb)∧Below w.heap.size w w'):=by
 obtain⟨i0,ei,ez,es,eb⟩:=info_parts infoAlt;obtain⟨aa,ca,rfl⟩:=ha.row;obtain⟨ab,cb,rfl⟩:=hb.row;have HA:=qq ha;have HBB:=qq hb;have HMA:=qq hma;have HMB:=qq hmb;obtain⟨na,hna⟩:∃x,x=la.length:=⟨_,rfl⟩
 obtain⟨nb,hnb⟩:∃x,x=lb.length:=⟨_,rfl⟩
 rw[←hna] at HA hla⊢;rw[←hnb] at HBB hlb⊢;have HNA:=qq hna;have HNB:=qq hnb;have HU:=qq union_of;have hne:71≠9:=by decide
 have HNE:=qq hne;clear ha hb hma hmb hna hnb hne;go_enter Tryz.func54,Tryz.ntmps54;go_wp2_with fail;go_loopw [5,12] (fun ov cc wr=>∃i:Nat,i≤na∧cc=.int .i64 (i:Int)∧Hid (AltsV 71 w.heap.size wr ov (pEach (la.take i) lb))∧Hid (Below w.heap.size w wr)) (fun _ cc _=>na - (intOf cc).toNat)
 case atStart=>exact⟨0,by omega,by first | rfl | go_num,qq (AltsV.nil _ _ _),qq (Below.refl _ _)⟩
 case round=>
  obtain⟨i,hi,rfl,HO,HB⟩:=hrel;have hi0:(0:Int)≤(i:Int):=by omega
  have hlen:=qq (each_len (la.take i) lb);obtain⟨ao,co,ho⟩:=HO.out.row;obtain⟨m,hm⟩:∃m,m=(pEach (la.take i) lb).length:=⟨_,rfl⟩
  rw[←hm] at ho;subst ho;have HM:=qq hm;clear hm;have hwr:=HB.out.size;by_cases hlt:i<na
  · have hi1:(i:Int)<(na:Int):=by omega
    obtain⟨x,hx⟩:∃x,la[i]? =some x:=⟨_,List.getElem?_eq_getElem (by rw[←HNA.out];exact hlt)⟩
    obtain⟨g,ax,cx,cap,e1,hxv,hcell,hgl⟩:=alts_at HA.out i x hx;rw[←HNA.out] at e1;have hac:aa=some ⟨g,0,none⟩:=by injection e1
    subst hac;have hc1:=hcell wr HB.out;have hgw:g<wr.heap.size:=by omega
    have HXV:=qq hxv;have hxl:x.length≤400:=HMA.out x (List.mem_of_getElem? hx);have HX:=qq hx;have HTK:Hid (pEach (la.take (i+1)) lb=pEach (la.take i) lb ++lb.map fun y=>pSet (x ++y)):=qq (by
      unfold pEach;rw[List.take_add_one,hx,List.flatMap_append];simp)
    obtain⟨nx,hnx⟩:∃q,q=x.length:=⟨_,rfl⟩
    rw[←hnx] at hc1 HXV hxl;have HNX:=qq hnx;clear hx hxv hcell e1 hnx;go_wp2_with fail;go_loopw [5,18] (fun ov uu w2=>∃j:Nat,j≤nb∧uu=.int .i64 (j:Int)∧Hid (AltsV 71 w.heap.size w2 ov (pEach (la.take i) lb ++(lb.take j).map fun y=>pSet (x ++y)))∧Hid (Below w.heap.size w w2)) (fun _ uu _=>nb - (intOf uu).toNat)
    case atStart=>exact⟨0,by omega,by first | rfl | go_num,qq (by simpa using HO.out),HB⟩
    case round=>
     obtain⟨j,hj,rfl,HO2,HB2⟩:=hrel;have hj0:(0:Int)≤(j:Int):=by omega
     obtain⟨a2,c2,ho2⟩:=HO2.out.row;obtain⟨m2,hm2⟩:∃q,q=(pEach (la.take i) lb ++(lb.take j).map fun y=>pSet (x ++y)).length:=⟨_,rfl⟩
     rw[←hm2] at ho2;subst ho2;have HM2:Hid (m2≤40400):=qq (by
       rw[hm2,List.length_append,each_len,List.length_map,List.length_take,List.length_take];have h1:min i la.length*lb.length≤200*200:=Nat.mul_le_mul (by rw[←HNA.out];omega) (by rw[←HNB.out];omega);have h2:min j lb.length≤200:=by rw[←HNB.out];omega
       omega)
     have HM2E:=qq hm2;have hw2:=HB2.out.size;clear hm2;by_cases hlt2:j<nb
     · have hj1:(j:Int)<(nb:Int):=by omega
       obtain⟨y,hy⟩:∃y,lb[j]? =some y:=⟨_,List.getElem?_eq_getElem (by rw[←HNB.out];exact hlt2)⟩
       obtain⟨g2,ay,cy,cap2,f1,hyv,hcell2,hgl2⟩:=alts_at HBB.out j y hy;rw[←HNB.out] at f1;have hac2:ab=some ⟨g2,0,none⟩:=by injection f1
       subst hac2;have hc2:=hcell2 wr HB2.out;have hgw2:g2<wr.heap.size:=by omega
       have hyl:y.length≤400:=HMB.out y (List.mem_of_getElem? hy);have HTK2:Hid ((lb.take (j+1)).map (fun y=>pSet (x ++y))=(lb.take j).map (fun y=>pSet (x ++y)) ++ [pSet (x ++y)]):=qq (by
         rw[List.take_add_one,hy];simp)
       have HCU:Hid (∀W,Below w.heap.size w W→Calls Tryz.prog 46 #[.slice ax nx cx,.slice ay y.length cy] W (fun e w'=>∃v',e=.returned v'∧AltV W.heap.size w' v' (pSet (x ++y))∧Below W.heap.size W w')):=qq (fun W hW=>HU.out Ba Bb _ _ x y W (by have:=row_be HXV.out hW;rw[HNX.out] at this⊢;exact this) (row_be hyv hW) (by rw[←HNX.out];exact hxl) hyl);obtain⟨ny,hny⟩:∃q,q=y.length:=⟨_,rfl⟩
       rw[←hny] at hc2 HCU;clear hy hyv hcell2 f1 hny hyl hlt2;go_wp2_with fail;refine(HCU.out _ HB2.out).mono ?_;rintro e w3 ⟨v3,rfl,hv3,hb3⟩;obtain⟨a3,c3,rfl⟩:=row_slice hv3;obtain⟨n3,hn3⟩:∃q,q=(pSet (x ++y)).length:=⟨_,rfl⟩
       rw[←hn3] at hv3⊢;have HV3:=qq hv3;have HB3:=qq hb3;have HN3:=qq hn3;have HO3:=qq (HO2.out.below hb3);clear hv3 hb3 hn3;obtain⟨o,hoo⟩:∃o,o=pEach (la.take i) lb ++(lb.take j).map (fun y=>pSet (x ++y)):=⟨_,rfl⟩
       rw[←hoo] at HO3 HM2E;obtain⟨vs,hrow,hAl⟩:=HO3.out;rw[←HM2E.out] at hrow;have hba:Below w3.heap.size w3 (w3.alloc (.cells #[.slice a3 n3 c3] 71)):=(Below.refl _ _).alloc (Nat.le_refl _) _;have HROW:=qq (row_be hrow hba);have HAL:=qq (hAl.keep hba.block);have HV4:=qq (row_mono (row_be HV3.out hba) HB2.out.size)
       have HB4:=qq ((below_then HB2.out HB3.out).trans (hba.mono (below_then HB2.out HB3.out).size));have HOO:=qq hoo;clear hrow hAl hba hoo;go_wp2_with (at_builtin;refine wpList_append_rows rfl _ _ 69 rfl w.heap.size 71 i0 (.slice none 0 0) 1 24 Tryz.underlying69 ei ez es eb rfl (by decide) _ _ _ rfl HROW.out w3.heap.size _ _ _ rfl (lit_row _ _ _) ?o1 ?c1 ?c2 ?c3 ?_)
       case o1=>intro u hu;obtain rfl:=List.mem_singleton.1 hu;rfl
       case c1=>have:=HM2.out;unfold maxLen;omega
       case c2=>have:=HM2.out;omega
       case c3=>exact HB4.out.size
       intro v5 w5 hown hgrow hat;have HB5:=qq (HB4.out.grown hgrow HB4.out.size (fun q hq=>(HROW.out.lt q hq).1));have HR4:Hid ((w3.alloc (.cells #[.slice a3 n3 c3] 71)).ownsRow w.heap.size 71 1 (.slice a2 m2 c2) o.length vs.toList):=qq (by rw[←HM2E.out];exact HROW.out);have HFIN:Hid (AltsV 71 w.heap.size w5 v5 (pEach (la.take i) lb ++(lb.take (j+1)).map fun y=>pSet (x ++y))):=qq (by
         rw[HTK2.out,←List.append_assoc,←HOO.out];refine alts_snoc HNE.out HR4.out HAL.out (x:=.slice a3 n3 c3) (by have:=HV4.out;rw[HN3.out] at this⊢;exact this) hgrow (by rw[←HM2E.out];exact hown))
       obtain⟨a5,c5,rfl⟩:=row_slice hown;clear hown hgrow hat;go_wp2_with fail;go_roundw
       case rel=>exact⟨j+1,by omega,by go_num,HFIN,HB5⟩
       case measure=>simp[intOf];omega
     · obtain rfl:nb=j:=by omega
       have HFIN:Hid (AltsV 71 w.heap.size wr (.slice a2 m2 c2) (pEach (la.take (i+1)) lb)):=qq (by have:=HO2.out;rw[HNB.out,List.take_length,←HTK.out] at this;exact this);clear HO2 HM2E;go_wp2_with fail;go_roundw
       case rel=>exact⟨i+1,by omega,by go_num,HFIN,HB2⟩
       case measure=>simp[intOf];omega
  · obtain rfl:na=i:=by omega
    have HFIN:Hid (AltsV 71 w.heap.size wr (.slice ao m co) (pEach la lb)):=qq (by have:=HO.out;rw[HNA.out,List.take_length] at this;exact this);go_wp2_with fail
    (try go_ret)
    exact⟨.slice ao m co,rfl,HFIN.out,HB.out⟩
theorem uni_app {α:Type} {lt:α→α→Bool} (o l m:List α):uni lt o (l ++m)=uni lt (uni lt o l) m:=by
 unfold uni;rw[List.foldl_append]
theorem uni_self {α:Type} {lt:α→α→Bool} (h:TO lt) {l:List α} (hl:Ris lt l):uni lt [] l=l:=(uni_eq h hl (fun _=>Iff.rfl)).symm
theorem PF.from_sz {l:PF} {i:Nat} {k:PE} (h:l.at i=some k):(l.from i).sz=k.kids.sz+(l.from (i+1)).sz+1:=by
 rw[PF.from_at l i k h];rfl
theorem PF.from_zero (l:PF):l.from 0=l:=by cases l<;>rfl
theorem PF.from_le:∀(l:PF) (i:Nat),(l.from i).sz≤l.sz
 | .nil,0=>Nat.le_refl _
 | .nil,_+1=>Nat.le_refl _
 | .cons _ _ _ _ _,0=>Nat.le_refl _
 | .cons _ _ _ k r,i+1=>by have:=PF.from_le r i;show(r.from i).sz≤k.sz+r.sz+1;omega
theorem PF.len_sz:∀l:PF,l.len≤l.sz
 | .nil=>Nat.le_refl _
 | .cons _ _ _ k r=>by have:=PF.len_sz r;show r.len+1≤k.sz+r.sz+1;omega
theorem pCounts_sz:∀(l:PF) (d m r:Nat),pCounts l d m=some r→r=m+l.sz
 | .nil,d,m,r,h=>by unfold pCounts at h;injection h with h;simp[PF.sz];omega
 | .cons o n b k t,d,m,r,h=>by
  unfold pCounts at h;split at h
  · cases h
  · obtain⟨q,h1,h2⟩:=Option.bind_eq_some_iff.1 h;have:=pCounts_sz k _ _ _ h1;have:=pCounts_sz t _ _ _ h2;show r=m+(k.sz+t.sz+1)
    omega
theorem pCounts_200:∀(l:PF) (d m r:Nat),m≤200→pCounts l d m=some r→r≤200
 | .nil,d,m,r,hm,h=>by unfold pCounts at h;injection h with h;omega
 | .cons o n b k t,d,m,r,hm,h=>by
  unfold pCounts at h;split at h
  · cases h
  · rename_i hc
    obtain⟨q,h1,h2⟩:=Option.bind_eq_some_iff.1 h;exact pCounts_200 t _ _ _ (pCounts_200 k _ _ _ (by omega) h1) h2
theorem pRight_sz {e:PE} (h:pRight e=true):e.kids.sz+1≤200:=by
 unfold pRight at h;obtain⟨r,hr⟩:=Option.isSome_iff_exists.1 h;have h1:=pCounts_sz e.one 1 0 r hr;have h2:=pCounts_200 e.one 1 0 r (by omega) hr;have:e.one.sz=e.kids.sz+0+1:=rfl;omega
structure NState (OP:Int) (kids:PF) (i:Nat) (acc raw:List PAlt):Prop where
 now:pN kids OP (if OP=2 then[[]] else[])=pN (kids.from i) OP acc
 same:acc=uni ltA [] raw
 ris:OP≠3→raw=acc
 few:OP=3→raw.length≤64*i
 len:OP≠3→raw.length≤64
 one:∀a∈raw,a.length+(kids.from i).sz≤kids.sz
theorem NState.start (OP:Int) (kids:PF):NState OP kids 0 (if OP=2 then[[]] else[]) (if OP=2 then[[]] else[]):=by
 refine⟨by rw[PF.from_zero],?_,fun _=>rfl,fun h=>by subst h;simp,fun _=>by split<;>simp,fun a ha=> ?_⟩
 · split<;>simp[uni,ins]
 · rw[PF.from_zero];split at ha
   · obtain rfl:=List.mem_singleton.1 ha;simp
   · cases ha
theorem NState.one_step {kids:PF} {i:Nat} {acc raw:List PAlt} {k:PE} {m:List PAlt} (h:NState 3 kids i acc raw) (hk:kids.at i=some k) (hm:pNorm k=some m):NState 3 kids (i+1) (uni ltA acc m) (raw ++m):=by
 obtain⟨hok,hml⟩:=pNorm_ok hm;have hsz:=PF.from_sz hk;refine⟨?_,by rw[uni_app,←h.same],fun e=>absurd rfl e,fun _=>by have:=h.few rfl;rw[List.length_append];omega,fun e=>absurd rfl e,fun a ha=> ?_⟩
 · rw[h.now,pN_at hk,hm];rfl
 · rcases List.mem_append.1 ha with ha | ha
   · have:=h.one a ha;omega
   · have h1:=(hok.one a ha).2;have h2:(kids.from i).sz≤kids.sz:=PF.from_le kids i;omega
theorem NState.all_step {OP:Int} {kids:PF} {i:Nat} {acc raw:List PAlt} {k:PE} {m:List PAlt} (h3:OP≠3) (h:NState OP kids i acc raw) (hk:kids.at i=some k) (hm:pNorm k=some m) (h64:(uni ltA [] (pEach raw m)).length≤64):NState OP kids (i+1) (uni ltA [] (pEach raw m)) (uni ltA [] (pEach raw m)):=by
 obtain⟨hok,hml⟩:=pNorm_ok hm;have hsz:=PF.from_sz hk;have hra:=h.ris h3;refine⟨?_,(uni_self toA (uni_ris toA _ [] List.Pairwise.nil)).symm,fun _=>rfl,fun e=>absurd e h3,fun _=>h64,fun a ha=> ?_⟩
 · rw[h.now,pN_at hk,hm];show(if OP=3 then _ else _)=_
   rw[if_neg h3,←hra,if_neg (by omega)]
 · rcases(uni_mem toA a _ []).1 ha with h1 | h1
   · cases h1
   · unfold pEach at h1;obtain⟨y,hy,h1⟩:=List.mem_flatMap.1 h1;obtain⟨z,hz,rfl⟩:=List.mem_map.1 h1;have a1:=h.one y hy;have a2:=(hok.one z hz).2;have a3:=pSet_len (y ++z);rw[List.length_append] at a3;omega
theorem NState.none_kid {OP:Int} {nm:PStr} {opt:Bool} {kids:PF} {i:Nat} {acc raw:List PAlt} {k:PE} (h1:OP≠1) (h:NState OP kids i acc raw) (hk:kids.at i=some k) (hm:pNorm k=none):pNorm ⟨OP,nm,opt,kids⟩=none:=by
 unfold pNorm;rw[if_neg h1,h.now,pN_at hk,hm];rfl
theorem NState.none_all {OP:Int} {nm:PStr} {opt:Bool} {kids:PF} {i:Nat} {acc raw:List PAlt} {k:PE} {m:List PAlt} (h1:OP≠1) (h3:OP≠3) (h:NState OP kids i acc raw) (hk:kids.at i=some k) (hm:pNorm k=some m) (h64:64<(uni ltA [] (pEach raw m)).length):pNorm ⟨OP,nm,opt,kids⟩=none:=by
 have hra:=h.ris h3;unfold pNorm;dsimp only;rw[if_neg h1,h.now,pN_at hk,hm];show(if OP=3 then _ else _:Option _).bind _=_
 rw[if_neg h3,←hra,if_pos h64];rfl
theorem NState.done {OP:Int} {nm:PStr} {opt:Bool} {kids:PF} {acc raw:List PAlt} (h1:OP≠1) (h:NState OP kids kids.len acc raw):pNorm ⟨OP,nm,opt,kids⟩=if(uni ltA [] raw).length≤64 then some (uni ltA [] raw) else none:=by
 unfold pNorm;dsimp only;rw[if_neg h1,h.now,PF.from_len,←h.same];rfl
end Go.Proofs.YtbepkpjcjpmpmaaGreatDoor
