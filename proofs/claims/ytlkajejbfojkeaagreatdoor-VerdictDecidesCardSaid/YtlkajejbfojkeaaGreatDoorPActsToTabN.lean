/- Acts, VdG, VdH, LwA, RfcC, Sort, TabM, TabN -/
import Derived.Test.YtlkajejbfojkeaaGreatDoorPVdDToVdP
set_option linter.unusedSimpArgs false
set_option linter.unusedVariables false
set_option maxRecDepth 100000
set_option maxHeartbeats 16000000
namespace Go.Proofs.YtlkajejbfojkeaaGreatDoor
open Go.RowKit
attribute [local go_sem] store_float
theorem infoActI:(Tryz.prog.info? 51).map (fun i=>(i.zero,i.size,i.bytes))=some (some (.agg #[.int .i64 0,.int .i64 0,.int .i64 0,.int .i64 0,.float .f64 0,.int .i64 0,.int .i64 0,.slice none 0 0]),8,80):=by kernel_rfl
structure ActsIn (B:Nat) (v:Value) (al:List SAct) (vs:List Value) (w:World):Prop where
 len:vs.length=al.length
 row:w.ownsRow B 51 8 v al.length (actsL al vs)
 regs:∀(i:Nat) (a:SAct) (x:Value),al[i]? =some a→vs[i]? =some x→w.ownsRow B 55 6 x a.regs.length (regsL a.regs)
 apart:∀x∈vs,∀k,x.ownBlock=some k→v.ownBlock≠some k
theorem ActsIn.below {B:Nat} {v:Value} {al:List SAct} {vs:List Value} {w w':World} (h:ActsIn B v al vs w) (hb:Below w.heap.size w w'):ActsIn B v al vs w':=
 ⟨h.len,row_heap h.row (fun k hk=>hb.block k (h.row.lt k hk).2),fun i a x h1 h2=>row_heap (h.regs i a x h1 h2) (fun k hk=>hb.block k ((h.regs i a x h1 h2).lt k hk).2),h.apart⟩
theorem ActsIn.nil (B:Nat) (w:World):ActsIn B (.slice none 0 0) [] [] w:=⟨rfl,World.ownsRow_nil _ _ _ _,fun i a x h=>by simp at h,fun x h=>by cases h⟩
theorem ActsIn.snoc {B : Nat} {v v2 : Value} {al : List SAct} {vs : List Value} {w w2 : World} {a : SAct} {x : Value} (h : ActsIn B v al vs w) (hx : w.ownsRow B 55 6 x a.regs.length (regsL a.regs)) (hax : ∀ k, x.ownBlock = some k → v.ownBlock ≠ some k)
    (hr:w2.ownsRow B 51 8 v2 (al.length+1) (actsL al vs ++actL a x)) (hg:w.grownBy w2 v.ownBlock) (hat:v2.ownBlock=v.ownBlock∨v2.ownBlock=some w.heap.size):ActsIn B v2 (al ++ [a]) (vs ++ [x]) w2:=by
 have keep:∀(u:Value) (r:List SReg),w.ownsRow B 55 6 u r.length (regsL r)→(∀k,u.ownBlock=some k→v.ownBlock≠some k)→w2.ownsRow B 55 6 u r.length (regsL r):=fun u r h1 h2=>
  row_heap h1 (fun k hk=>hg.block k (h1.lt k hk).2 (fun e=>h2 k hk e.symm))
 have apart2:∀(u:Value) (r:List SReg),w.ownsRow B 55 6 u r.length (regsL r)→(∀k,u.ownBlock=some k→v.ownBlock≠some k)→∀k,u.ownBlock=some k→v2.ownBlock≠some k:=fun u r h1 h2 k hk e=>by
  rcases hat with h3 | h3
  · exact h2 k hk (by rw[←h3];exact e)
  · have:=(h1.lt k hk).2;rw[h3] at e;injection e with e
    omega
 have hl:=h.len;refine⟨by simp[h.len],?_,fun i a' x' h1 h2=> ?_,fun u hu k hk=> ?_⟩
 · rw[List.length_append];unfold actsL at hr⊢;rw[List.zip_append h.len.symm,List.flatMap_append];simpa using hr
 · by_cases hi:i<al.length
   · rw[List.getElem?_append_left hi] at h1;rw[List.getElem?_append_left (by omega)] at h2;exact keep _ _ (h.regs i a' x' h1 h2) (h.apart x' (List.mem_of_getElem? h2))
   · rw[List.getElem?_append_right (by omega)] at h1;rw[List.getElem?_append_right (by omega),hl] at h2;have e0:i - al.length=0:=by
      rcases Nat.eq_zero_or_pos (i - al.length) with e | e
      · exact e
      · rw[List.getElem?_eq_none (by simp;omega)] at h1;cases h1
     rw[e0] at h1 h2;simp at h1 h2;subst h1 h2;exact keep _ _ hx hax
 · rcases List.mem_append.1 hu with hu | hu
   · obtain⟨i,hi,rfl⟩:=List.getElem_of_mem hu;exact apart2 _ _ (h.regs i al[i] vs[i] (List.getElem?_eq_getElem (by omega)) (List.getElem?_eq_getElem hi)) (h.apart _ hu) k hk
   · obtain rfl:=List.mem_singleton.1 hu;exact apart2 _ _ hx hax k hk
theorem actL_ones (a:SAct) (v:Value) (hv:v.oneCell'=true):∀u∈actL a v,u.oneCell'=true:=by
 intro u hu;simp only[actL,List.mem_cons,List.not_mem_nil,or_false] at hu;rcases hu with rfl | rfl | rfl | rfl | rfl | rfl | rfl | rfl<;>first | rfl | exact hv
theorem acts_of (L:SLoc) (S:Sto) (w:World) (h:StoreAt L S w) (hG:StoGood S):Calls Tryz.prog 24 #[.pointer (some ⟨L.sb,0,none⟩)] w fun e w'=>∃v vs,e=.returned v∧ActsIn w.heap.size v S.acts vs w'∧Below w.heap.size w w':=by
 obtain⟨i0,ei,ez,es,eb⟩:=info_parts infoActI;obtain⟨aa,ac,hav,hal,har⟩:=ptr_row h.acts;have h8:=hG.acts;have HACT:=qq (fun W (hW:StoreAt L S W)=>hW.act);have HLEN:=qq (fun a (ha:a∈S.acts)=>(hG.act a ha).len);have H:=qq h;have hlen:=h.len;obtain⟨n,hn⟩:∃n,n=S.acts.length:=⟨_,rfl⟩
 rw[←hn] at har h8;have c2:∀W,StoreAt L S W→W.cell? ⟨L.sb,2,none⟩=some (.slice aa n ac):=fun W hW=>by have:=hW.blk.cell 2;rw[hav] at this;rw[hn];exact this
 have HC2:=qq c2;have HAR:=qq har;have HN:=qq hn;have HHL:=qq hlen;have hsb:=h.blk.lt;have q2:=c2 w h;clear h hG har hal hav c2 hn hlen;go_enter Tryz.func24,Tryz.ntmps24;go_wp2_with fail;go_loopw [3,11] (fun v i wr=>∃k:Nat,k≤n∧i=.int .i64 (k:Nat)∧Hid (∃vs,ActsIn w.heap.size v (S.acts.take k) vs wr)∧Below w.heap.size w wr) (fun _ i _=>n - (intOf i).toNat)
 case atStart=>exact⟨0,by omega,by first | rfl | go_num,qq ⟨[],by rw[List.take_zero];exact ActsIn.nil _ _⟩,by go_grown⟩
 case round=>
  obtain⟨k,hk,rfl,⟨vs,HV⟩,hB⟩:=hrel;have HVS:=qq HV;by_cases hlt:k<n
  · have hks:k<S.acts.length:=by rw[←HN.out];exact hlt
    obtain⟨g,rfl,hg,_,hpt⟩:=HAR.out (by omega);obtain⟨x,hx⟩:∃x,L.ab[k]? =some x:=⟨_,List.getElem?_eq_getElem (by rw[HHL.out];exact hks)⟩
    obtain⟨a,ha⟩:∃a,S.acts[k]? =some a:=⟨_,List.getElem?_eq_getElem hks⟩
    have HS:=qq (H.out.below hB);obtain⟨hbk,hrg⟩:=HACT.out _ HS.out k x a hx ha;have hp:=(hB.cell (p:=⟨g,k,none⟩) hg).trans (hpt k x hx);have HCP:=qq (copied_of a x.2 wr hrg (HLEN.out a (List.mem_of_getElem? ha)));have HA:=qq ha;have lk:=hbk.lt;have qk:=hbk.cell;have hki:(k:Int)<(n:Int):=by omega
    have hk0:(0:Int)≤(k:Int):=by omega
    have hgw:g<wr.heap.size:=Nat.lt_of_lt_of_le hg hB.size;have hl6:=HLEN.out a (List.mem_of_getElem? ha);have hlt8:(S.acts.take k).length=k:=by rw[List.length_take];omega
    obtain⟨av,cv,hv⟩:=row_slice HV.row;rw[hlt8] at hv;subst hv;obtain⟨xb,xv⟩:=x;obtain⟨an,aq,oc,dp,ex,pa,de,rs⟩:=a;dsimp only[actC] at*;clear hbk hrg hpt hx ha HV;go_wp2_with fail;refine HCP.out.mono ?_;rintro e w1 ⟨v',rfl,ho,hb1⟩;obtain⟨va,vc,rfl⟩:=row_slice ho;have HO:=qq (row_base ho hB.size);have HNB:=qq (fun j hj=>(ho.lt j hj).1);have HV1:=qq (HVS.out.below hb1)
    have B1:Below w.heap.size w w1:=below_then hB hb1;have hsz1:=hb1.size;clear hp qk lk ho hb1
    go_wp2_with (at_builtin;refine wpList_append_own_at _ rfl _ _ 45 rfl w.heap.size 51 i0 (.agg #[.int .i64 0,.int .i64 0,.int .i64 0,.int .i64 0,.float .f64 0,.int .i64 0,.int .i64 0,.slice none 0 0]) 8 80 Tryz.underlying45 ei ez es eb rfl (by decide) _ _ _ rfl (by have:=HV1.out.row;rw[hlt8] at this;exact row_heap this (fun k hk=>by rw[((Below.refl w1.heap.size w1).alloc (Nat.le_refl _) _).block k (this.lt k hk).2])) ⟨w1.heap.size,0,none⟩ 1 1 (actL ⟨an,aq,oc,dp,ex,pa,de,rs⟩ (.slice va rs.length vc)) (by rfl) rfl (lit_cells (Blk.fresh _ _ _ _ rfl)) (actL_ones _ _ rfl) ?d3 ?d4 ?d5 ?_)
    case d3=>unfold maxLen;omega
    case d4=>omega
    case d5=>have:=B1.size;simp;omega
    intro v2 w3 hown hgrow _ hat;have HW:=qq (show ∃vs2,ActsIn w.heap.size v2 (S.acts.take (k+1)) vs2 w3 from⟨vs ++ [.slice va rs.length vc],by
      have htk:S.acts.take (k+1)=S.acts.take k ++ [⟨an,aq,oc,dp,ex,pa,de,rs⟩]:=by
        obtain⟨hj,he⟩:=List.getElem?_eq_some_iff.1 HA.out;rw[List.take_succ_eq_append_getElem hj,he]
      rw[htk];refine ActsIn.snoc (w:=w1.alloc (.cells #[an,aq,oc,dp,.float .f64 ex,pa,de,.slice va rs.length vc] 51)) (HV1.out.below ((Below.refl w1.heap.size w1).alloc (Nat.le_refl _) _)) (row_heap HO.out (fun j hj=>((Below.refl w1.heap.size w1).alloc (Nat.le_refl _) _).block j (HO.out.lt j hj).2)) (fun j hj e=> ?_) (by rw[hlt8];exact hown) hgrow (by simpa using hat);have h1:=HNB.out j hj
      have h2:=(HVS.out.row.lt j e).2;omega⟩)
    have B3:Below w.heap.size w w3:=(B1.alloc B1.size _).grown hgrow (by have:=B1.size;simp;omega) (fun j hj=>by have:=(HVS.out.row.lt j hj).1;omega);clear hown hgrow hat;go_wp2_with fail
    all_goals (go_roundw<;>first | exact⟨k+1,by omega,by go_num,HW,B3⟩ | (simp[intOf];omega))
  · obtain rfl:k=n:=by omega
    have HF:Hid (ActsIn w.heap.size _ S.acts vs wr):=qq (by have:=HVS.out;rw[List.take_of_length_le (by rw[←HN.out];omega)] at this;exact this);obtain⟨av,cv,rfl⟩:=row_slice HF.out.row;go_wp2_with fail;go_ret;exact⟨_,vs,rfl,HF.out,hB⟩
open Go.RowKit Go.Shelf
attribute [local go_sem] store_float Oper.semAt_some
def idL (x:Int×Int):List Value:=[.int .i64 x.1,.int .i64 x.2]
def idsL (xs:List (Int×Int)):List Value:=xs.flatMap idL
theorem idL_len (x:Int×Int):(idL x).length=2:=rfl
theorem idL_one (x:Int×Int):∀u∈idL x,u.oneCell'=true:=by
 intro u hu;simp only[idL,List.mem_cons,List.not_mem_nil,or_false] at hu;rcases hu with rfl | rfl<;>rfl
theorem infoAct2:(Tryz.prog.info? 36).map (fun i=>(i.zero,i.size,i.bytes))=some (some (.agg #[.int .i64 0,.int .i64 0]),2,16):=by kernel_rfl
def isDue (a:SAct):Bool:=decide (vDirsN a.de a.regs a.regs.length≠[])
def dueN (S:Sto) (k:Nat):List (Int×Int):=((S.acts.take k).filter isDue).map fun a=>(a.an,a.aq)
theorem dueN_succ {S:Sto} {k:Nat} {a:SAct} (h:S.acts[k]? =some a):dueN S (k+1)=dueN S k ++(if isDue a=true then[(a.an,a.aq)] else[]):=by
 obtain⟨hk,he⟩:=List.getElem?_eq_some_iff.1 h;unfold dueN;rw[List.take_succ_eq_append_getElem hk,he,List.filter_append,List.map_append];congr 1;by_cases hd:isDue a=true
 · rw[if_pos hd];simp[hd]
 · rw[if_neg hd];simp[hd]
theorem dueN_all (S:Sto):dueN S S.acts.length=vDue S:=by unfold dueN vDue;rw[List.take_length];rfl
theorem dueN_len (S:Sto) (k:Nat):(dueN S k).length≤k:=by
 unfold dueN;rw[List.length_map];exact Nat.le_trans (List.length_filter_le _ _) (by rw[List.length_take];omega)
theorem dirs_some {d:Int} {rs:List SReg} (x:VDir d rs):vDirsN d rs rs.length≠[]:=by
 obtain⟨⟨j,k⟩,r,hr,hk,h0⟩:=x;dsimp only at hr hk h0;intro he;unfold vDirsN at he;rw[List.filterMap_eq_nil_iff] at he;have h1:=he j (by rw[List.mem_range];exact(List.getElem?_eq_some_iff.1 hr).1);rw[hr] at h1;simp only at h1;rw[if_neg (by rw[←hk];exact h0)] at h1
 cases h1
theorem KeepB.later {o:Option Nat} {w w1 w2:World} (h:KeepB o w w1) (hb:Below w1.heap.size w1 w2):KeepB o w w2:=⟨Nat.le_trans h.1 hb.size,fun k hk hn=>(hb.block k (Nat.lt_of_lt_of_le hk h.1)).trans (h.2 k hk hn)⟩
theorem KeepB.cell {o:Option Nat} {w w':World} {b f:Nat} {v:Value} (h:KeepB o w w') (hc:w.cell? ⟨b,f,none⟩=some v) (hn:o≠some b):w'.cell? ⟨b,f,none⟩=some v:=by
 have e:=h.2 b (lt_of_cell hc) hn;rw[←hc];simp[World.cell?,e]
theorem RegC.keepB {o:Option Nat} {W W':World} {b f:Nat} {r:SReg} (h:RegC W b f r) (hk:KeepB o W W') (hb:o≠some b):RegC W' b f r:=by
 obtain⟨h0,h1,h2,h3,h4,h5⟩:=h;exact⟨hk.cell h0 hb,hk.cell h1 hb,hk.cell h2 hb,hk.cell h3 hb,hk.cell h4 hb,hk.cell h5 hb⟩
theorem ActC.keepB {o:Option Nat} {W W':World} {b f:Nat} {a:SAct} {v:Value} (h:ActC W b f a v) (hk:KeepB o W W') (hb:o≠some b):ActC W' b f a v:=by
 obtain⟨h0,h1,h2,h3,h4,h5,h6,h7⟩:=h;exact⟨hk.cell h0 hb,hk.cell h1 hb,hk.cell h2 hb,hk.cell h3 hb,hk.cell h4 hb,hk.cell h5 hb,hk.cell h6 hb,hk.cell h7 hb⟩
structure DueAt (w w1 W:World) (v:Value) (ids:List (Int×Int)):Prop where
 out:Blk W w.heap.size #[v]
 row:W.ownsRow w1.heap.size 36 2 v ids.length (idsL ids)
 keep:KeepB (some w.heap.size) w1 W
 be:Below w.heap.size w W
def Marks (w1 W:World) (Ds:List Nat):Prop:=Ds.Nodup∧∀D∈Ds,w1.heap.size≤D∧W.heap[D]? =some (.deferred (some []))
def defs (Ds:List Nat):List Deferred:=Ds.map fun D=>{target:=.collected D,args:= #[]}
theorem DueAt.below {w w1 W W':World} {v:Value} {ids:List (Int×Int)} (h:DueAt w w1 W v ids) (hb:Below W.heap.size W W'):DueAt w w1 W' v ids:=⟨h.out.below hb,row_be h.row hb,h.keep.later hb,below_then h.be hb⟩
theorem Marks.below {w1 W W':World} {Ds:List Nat} (h:Marks w1 W Ds) (hb:Below W.heap.size W W'):Marks w1 W' Ds:=⟨h.1,fun D hD=>⟨(h.2 D hD).1,(hb.block D (Array.getElem?_eq_some_iff.1 (h.2 D hD).2).1).trans (h.2 D hD).2⟩⟩
theorem Marks.lt {w1 W:World} {Ds:List Nat} (h:Marks w1 W Ds):∀D∈Ds,D<W.heap.size:=fun D hD=>(Array.getElem?_eq_some_iff.1 (h.2 D hD).2).1
theorem DueAt.own {w w1 W W':World} {v:Value} {ids:List (Int×Int)} {row:Option Nat} (h:DueAt w w1 W v ids) (hz:w.heap.size<w1.heap.size) (hg:W.grownBy W' row) (hr:∀k,row=some k→w1.heap.size≤k∧∃o:Obj,W.heap[k]? =some o∧o.isCells=false):DueAt w w1 W' v ids:=by
 refine⟨h.out.same hg.size (hg.block _ h.out.lt (fun e=>by have:=(hr _ e.symm).1;omega)),row_heap h.row (fun k hk=>hg.block k (h.row.lt k hk).2 (fun e=> ?_)),⟨Nat.le_trans h.keep.1 hg.size,fun k hk hn=>(hg.block k (Nat.lt_of_lt_of_le hk h.keep.1) (fun e=>by have:=(hr _ e.symm).1;omega)).trans (h.keep.2 k hk hn)⟩,h.be.grown hg h.be.size (fun k hk=>by have:=(hr k hk).1;omega)⟩
 obtain⟨_,o,ho,hc⟩:=hr k e.symm;rw[row_cells h.row hk ho] at hc
 cases hc
theorem Marks.own {w1 W W':World} {Ds:List Nat} {row:Option Nat} (h:Marks w1 W Ds) (hg:W.grownBy W' row) (hr:∀k,row=some k→k∉Ds):Marks w1 W' Ds:=
 ⟨h.1,fun D hD=>⟨(h.2 D hD).1,(hg.block D (h.lt D hD) (fun e=>hr D e.symm hD)).trans (h.2 D hD).2⟩⟩
theorem Marks.set {w1 W:World} {Ds:List Nat} (h:Marks w1 W Ds) (b o:Nat) (v:Value) (hb:b<w1.heap.size):Marks w1 (W.setCell ⟨b,o,none⟩ v) Ds:=
 ⟨h.1,fun D hD=>⟨(h.2 D hD).1,(Below.heap_setCell _ _ _ _ (fun e=>by have:=(h.2 D hD).1;(try dsimp only at e);omega)).trans (h.2 D hD).2⟩⟩
theorem DueAt.snoc {w w1 W W2 w3 : World} {v v2 : Value} {ids : List (Int × Int)} {x : Int × Int} (h1 : DueAt w w1 W v ids) (hz : w.heap.size < w1.heap.size) (hb : Below W.heap.size W W2) (hg : W2.grownBy w3 v.ownBlock)
    (hown:w3.ownsRow w1.heap.size 36 2 v2 (ids.length+1) (idsL ids ++idL x)):DueAt w w1 (w3.setCell ⟨w.heap.size,0,none⟩ v2) v2 (ids ++ [x]):=by
 have h:=h1.below hb;have n1:∀j,v.ownBlock=some j→w1.heap.size≤j:=fun j e=>(h.row.lt j e).1
 have n2:∀j,v2.ownBlock=some j→w1.heap.size≤j:=fun j e=>(hown.lt j e).1
 have b1:=h.out.same hg.size (hg.block _ h.out.lt (fun e=>by have:=n1 _ e.symm;omega));refine⟨b1.set' 0 (by simp) v2,?_,⟨Nat.le_trans h.keep.1 (by simpa using hg.size),fun k hk hn=> ?_⟩,(h.be.grown hg h.be.size (fun j hj=>by have:=n1 _ hj;omega)).setCell (by simp) _⟩
 · rw[List.length_append];refine row_heap (xs:=idsL (ids ++ [x])) ?_ (fun k hk=>Below.heap_setCell _ _ _ _ (fun e=>by have:=n2 _ hk;(try dsimp only at e);omega));unfold idsL at hown⊢;rw[List.flatMap_append];simpa using hown
 · exact(Below.heap_setCell _ _ _ _ (fun e=>hn (by rw[e]))).trans ((hg.block k (Nat.lt_of_lt_of_le hk h.keep.1) (fun e=>by have:=n1 _ e.symm;omega)).trans (h.keep.2 k hk hn))
theorem leaves_marks {F : Fence} {n : Nat} {P : Program} {fn : Func} {tmps : Array Value} {R : Ending → World → Prop} : ∀ (Ds : List Nat) (w : World), Ds.Nodup → (∀ D ∈ Ds, w.heap[D]? = some (.deferred (some []))) →
    (∀W:World,W.heap.size=w.heap.size→W.os=w.os→W.tape=w.tape→W.output=w.output→(∀k,k∉Ds→W.heap[k]? =w.heap[k]?)→LeavesInM F n P fn tmps R [] .returning W)→LeavesInM F n P fn tmps R (defs Ds) .returning w
 | [],w,_,_,h=>h w rfl rfl rfl rfl (fun _ _=>rfl)
 | D::t,w,hn,hm,h=>by
  have hg:=grownBy_putObj' w D (.deferred none);refine⟨by simp,.inl ⟨D,_,rfl,run_takeDeferred (hm D (by simp)),?_⟩⟩;have hsz:(w.putObj D (.deferred none)).heap.size=w.heap.size:=by simp[World.putObj]
  have hne:∀k,k≠D→(w.putObj D (.deferred none)).heap[k]? =w.heap[k]? :=fun k hk=>World.putObj_heap_other hk
  refine leaves_marks t _ (List.nodup_cons.1 hn).2 (fun E hE=>(hne E (fun e=>(List.nodup_cons.1 hn).1 (by rw[←e];exact hE))).trans (hm E (List.mem_cons_of_mem _ hE))) (fun W h1 h2 h3 h4 h5=>h W (h1.trans hsz) (h2.trans hg.os) (h3.trans hg.tape) (h4.trans hg.output) (fun k hk=> ?_));exact(h5 k (fun e=>hk (List.mem_cons_of_mem _ e))).trans (hne k (fun e=>hk (by rw[e];simp)))
theorem vdue_of (L:SLoc) (S:Sto) (w:World) (h:StoreAt L S w) (hG:StoGood S):Calls Tryz.prog 55 #[.pointer (some ⟨L.sb,0,none⟩)] w fun e w'=>∃B v,e=.returned v∧w'.ownsRow B 36 2 v (vDue S).length (idsL (vDue S))∧Below w.heap.size w w':=by
 refine(callsIn_wide (n:=10)).1 ?_;have HA:=qq (fun W hW=>acts_of L S W hW hG);have HS:=qq h;have HD0:=qq (fun(a:SAct) va vn vc W=>dirs_of a.an a.aq a.oc a.dp a.ex a.pa a.de va vn vc a.de W);have HG:=qq hG;have HEND:Hid (∀v W W',DueAt w W W' v (vDue S)→∃B,W'.ownsRow B 36 2 v (vDue S).length (idsL (vDue S))):=qq (fun v W W' hd=>⟨_,hd.row⟩);clear h hG
 refine callsIn_of_wp_marks Tryz.func55 rfl trivial ?_ rfl;simp only[Tryz.ntmps55,List.size_toArray,List.length_cons,List.length_nil,Nat.reduceAdd,Nat.reduceSub,Array.replicate_succ,Array.replicate_zero,List.push_toArray,List.append_toArray,List.nil_append,List.cons_append]
 gi_wp2_with fail
 refine⟨trivial,(callsIn_wide.2 (HA.out _ (HS.out.below (by go_grown)))).mono ?_⟩;rintro e w1 ⟨v,vs,rfl,hA,hb1⟩;have HA1:=qq hA;obtain⟨av,cv,hv,hlen,hrow⟩:=act_row hA.len hA.row;subst hv;have HROW:Hid (0<S.acts.length→∃g,av=some ⟨g,0,none⟩∧w.heap.size+1≤g∧g<w1.heap.size∧∀(j:Nat) (x:SAct) (u:Value),S.acts[j]? =some x→vs[j]? =some u→ActC w1 g (j*8) x u):=qq (fun h0=>by
   obtain⟨g,h1,h2,_,h3⟩:=hrow h0;refine⟨g,h1,?_,h2,h3⟩;have:=(hA.row.lt g (by rw[h1];rfl)).1;simpa using this)
 have HREG:Hid (∀(k:Nat) (a:SAct),S.acts[k]? =some a→∃va vc,vs[k]? =some (.slice va a.regs.length vc)∧∀(j:Nat) (r:SReg),a.regs[j]? =some r→∃g,va=some ⟨g,0,none⟩∧w.heap.size+1≤g∧g<w1.heap.size∧RegC w1 g (j*6) r):=qq (fun k a hk=>by
   obtain⟨x,hx⟩:∃x,vs[k]? =some x:=⟨_,List.getElem?_eq_getElem (by rw[hA.len];exact(List.getElem?_eq_some_iff.1 hk).1)⟩
   have hr:=hA.regs k a x hk hx;obtain⟨va,vc,rfl,hl,h1⟩:=reg_row hr;refine⟨va,vc,hx,fun j r hj=> ?_⟩;obtain⟨g,h2,h3,_,h4⟩:=h1 (by have:=(List.getElem?_eq_some_iff.1 hj).1;omega);refine⟨g,h2,?_,h3,h4 j r hj⟩;have:=(hr.lt g (by rw[h2];rfl)).1;simpa using this)
 have HD1:Hid (DueAt w w1 w1 (.slice none 0 0) (dueN S 0)):=qq ⟨(Blk.fresh w _ _ _ rfl).below hb1,World.ownsRow_nil _ _ _ _,⟨Nat.le_refl _,fun _ _ _=>rfl⟩,below_then (by go_grown) hb1⟩;have hz1:w.heap.size<w1.heap.size:=by have:=hb1.size;simp at this;omega
 have hm8:=HG.out.acts;obtain⟨m,hm⟩:∃m,m=S.acts.length:=⟨_,rfl⟩
 have HM:=qq hm;clear hA hb1 hlen hrow HS HA HA1;rw[←hm] at hm8 HROW⊢;clear hm
 gi_wp2_with fail
 refine wpIn_loop (fun a' W=>∃(k:Nat) (v:Value) (Ds:List Nat) (u5 u10 u11 u12 u13 u14 u15 u16 u25:Value),k≤m∧a'=({tmps:= #[.pointer (some ⟨L.sb,0,none⟩),undef,.slice none 0 0,.pointer (some ⟨w.heap.size,0,none⟩),undef,u5,.pointer (some ⟨L.sb,0,none⟩),.slice av m cv,.int .i64 (m:Int),.int .i64 (k:Int),u10,u11,u12,u13,u14,u15,u16,undef,undef,undef,undef,undef,undef,undef,undef,u25,undef],defers:=defs Ds}:Act)∧Hid (DueAt w w1 W v (dueN S k))∧Hid (Marks w1 W Ds)) (fun a' _=>m - (intOf (a'.tmps.getD 9 undef)).toNat) ?start ?round
 case start=>exact⟨0,_,[],_,_,_,_,_,_,_,_,_,by omega,rfl,HD1,qq ⟨List.nodup_nil,by simp⟩⟩
 case round=>
  rintro a' W ⟨k,v,Ds,u5,u10,u11,u12,u13,u14,u15,u16,u25,hk,rfl,HD,HMK⟩;by_cases hlt:k<m
  · obtain⟨a,hak⟩:∃a,S.acts[k]? =some a:=⟨_,List.getElem?_eq_getElem (by rw[←HM.out];exact hlt)⟩
    have HS1:=qq (dueN_succ hak);have hl6:=(HG.out.act a (List.mem_of_getElem? hak)).len;obtain⟨va,vc,hvk,hregs⟩:=HREG.out k a hak;obtain⟨g,rfl,hg1,hg2,hcell⟩:=HROW.out (by omega);obtain⟨c0,c1,c2,c3,c4,c5,c6,c7⟩:=(hcell k a _ hak hvk).keepB HD.out.keep (by intro e;injection e with e;omega)
    have HRG:Hid (∀(j:Nat) (r:SReg),a.regs[j]? =some r→∃g,va=some ⟨g,0,none⟩∧g<W.heap.size∧RegC W g (j*6) r):=qq (fun j r hj=>by
      obtain⟨g,h1,h2,h3,h4⟩:=hregs j r hj;exact⟨g,h1,Nat.lt_of_lt_of_le h3 HD.out.keep.1,h4.keepB HD.out.keep (by intro e;injection e with e;omega)⟩)
    have hk0:(0:Int)≤(k:Int):=by omega
    have hk1:(k:Int)<(m:Int):=by omega
    clear hvk hregs hcell hg1 hg2 hak;have hDv:=HD0.out a va a.regs.length vc;obtain⟨an,aq,oc,dp,ex,pa,de,rs⟩:=a;dsimp only at*;obtain⟨vn,hvn⟩:∃n,n=rs.length:=⟨_,rfl⟩
    rw[←hvn] at hDv c7;have HDV:=qq hDv;have HVN:=qq hvn;clear hDv hvn
    gi_wp2_with fail
    refine⟨trivial,(callsIn_wide.2 (HDV.out _)).mono ?_⟩;rintro e w3 ⟨rfl,rfl⟩;obtain⟨C,hC⟩:∃C:Array Value,C= #[.int .i64 an,.int .i64 aq,.int .i64 oc,.int .i64 dp,.float .f64 ex,.int .i64 pa,.int .i64 de,.slice va vn vc]:=⟨_,rfl⟩
    obtain⟨w5,hw5⟩:∃w5,w5=(((W.alloc (.cells C 51)).alloc (.cells C 51)).alloc (.cells #[de] 3)):=⟨_,rfl⟩
    have HB5:=qq (show Below W.heap.size W w5 by rw[hw5];go_grown);have HZ5:=qq (show w5.heap.size=W.heap.size+3 by rw[hw5];simp);have KP:=qq (show Blk w5 W.heap.size C by rw[hw5];exact((Blk.fresh _ _ _ _ rfl).alloc _).alloc _);have KA:=qq (show Blk w5 (W.heap.size+1) C by rw[hw5];exact(Blk.fresh _ _ _ _ (by simp)).alloc _)
    have KD:=qq (show Blk w5 (W.heap.size+1+1) #[de] by rw[hw5];exact Blk.fresh _ _ _ _ (by simp));rw[hC] at hw5 KP KA;simp only[World.size_alloc];rw[←hw5];clear hw5 hC c0 c1 c2 c3 c4 c5 c6 c7;have HDU:=qq (HD.out.below HB5.out);have HMU:=qq (HMK.out.below HB5.out);have HLT:=qq HMU.out.lt;have HRG5:Hid (∀(j:Nat) (r:SReg),rs[j]? =some r→∃g,va=some ⟨g,0,none⟩∧RegC w5 g (j*6) r):=qq (fun j r hj=>by
      obtain⟨g,h1,h2,h3⟩:=HRG.out j r hj;exact⟨g,h1,h3.below HB5.out h2⟩)
    obtain⟨gs,hgl,hgr⟩:∃gs:List Nat,(∀k∈gs,k<w5.heap.size)∧∀(j:Nat) (r:SReg),rs[j]? =some r→∃g,va=some ⟨g,0,none⟩∧g∈gs∧RegC w5 g (j*6) r:=by
     cases rs with
     | nil=>exact⟨[],by simp,fun j r hj=>by simp at hj⟩
     | cons r t=>
      obtain⟨g,h1,h2⟩:=HRG5.out 0 r rfl;refine⟨[g],fun k hk=>(by rw[List.mem_singleton.1 hk];exact lt_of_cell h2.1),fun j r2 hj=> ?_⟩;obtain⟨g2,i1,i4⟩:=HRG5.out j r2 hj;rw[h1] at i1;injection i1 with i1
      injection i1 with i1
      subst i1;exact⟨g,h1,by simp,i4⟩
    have HGR:=qq hgr;have HKB:Hid (∀k∈[W.heap.size+1,W.heap.size+1+1] ++gs,k<w5.heap.size):=qq (fun k hk=>by
      have hz:=HZ5.out;rcases List.mem_append.1 hk with hk | hk
      · have:k=W.heap.size+1∨k=W.heap.size+2:=by simpa using hk
        omega
      · exact hgl k hk)
    clear hgr hgl
    gi_wp2_with fail
    have hz5:w1.heap.size≤w5.heap.size:=HDU.out.keep.1;refine wpIn_rangeFunc_ownG rfl (by omega) (gf:=236) (lb:= #[.pointer (some ⟨W.heap.size+1,0,none⟩),.pointer (some ⟨W.heap.size+1+1,0,none⟩)]) rfl trivial (enters_of Tryz.func236 (by kernel_rfl) rfl)
     (dirs_seq _ (by omega) ([W.heap.size+1,W.heap.size+1+1] ++gs) (W.heap.size+1) (W.heap.size+1+1) an aq oc dp ex pa de va vc de rs w5 (by rw[←HVN.out];exact KA.out) KD.out (fun j r hj=>by obtain⟨g,h1,h2,h4⟩:=HGR.out j r hj;exact⟨g,h1,List.mem_append.2 (.inr h2),h4⟩) (by simp) (by simp) hl6) keepL_t ?keepb (Below.refl _ _) (fun _=>rfl)
     (fun pre W'=>pre=[]∧DueAt w w1 W' v (dueN S k)∧Marks w1 W' Ds∧Blk W' W.heap.size #[an,aq,oc,dp,.float .f64 ex,pa,de,.slice va vn vc]) (fun c pre W'=>c=.exit 2∧pre≠[]∧∃v',DueAt w w1 W' v' (dueN S k ++ [(an,aq)])∧Marks w1 W' Ds)
     ?ownI ?ownX ⟨rfl,HDU.out,HMU.out,KP.out⟩
     (fun x=>{tmps:= #[.pointer (some ⟨L.sb,0,none⟩),undef,.slice none 0 0,.pointer (some ⟨w.heap.size,0,none⟩),undef,.pointer (some ⟨W.heap.size,0,none⟩),.pointer (some ⟨L.sb,0,none⟩),.slice (some ⟨g,0,none⟩) m cv,.int .i64 (m:Int),.int .i64 (k:Int),.bool true,.pointer (some ⟨g,k*8,none⟩),.agg #[an,aq,oc,dp,.float .f64 ex,pa,de,.slice va vn vc],.agg #[an,aq,oc,dp,.float .f64 ex,pa,de,.slice va vn vc],.pointer (some ⟨W.heap.size,6,none⟩),.int .i64 de,.func (.func 236) #[] #[.pointer (some ⟨W.heap.size+1,0,none⟩),.pointer (some ⟨W.heap.size+1+1,0,none⟩)],.int .i64 (x.x.1:Int),.int .i64 x.x.2,undef,undef,undef,undef,undef,undef,u25,undef],defers:=[]}) ?assign ?body ?done ?stop
    case keepb=>exact fun W' l o o' hl ho _ _=>⟨by simp,fun k hk _=>World.putObj_heap_other (fun e=>by have:=HKB.out k hk;omega)⟩
    case ownI=>exact fun s A B row hs hg hr=>⟨hs.1,hs.2.1.own hz1 hg (fun k e=>⟨Nat.le_trans hz5 (hr k e).1,(hr k e).2⟩),hs.2.2.1.own hg (fun k e hk=>by have:=HLT.out k hk;have:=(hr k e).1;omega),hs.2.2.2.same hg.size (hg.block _ hs.2.2.2.lt (fun e=>by have:=(hr _ e.symm).1;have:=HZ5.out;omega))⟩
    case ownX=>exact fun c s A B row hs hg hr=>⟨hs.1,hs.2.1,by
      obtain⟨_,_,v',h1,h2⟩:=hs;exact⟨v',h1.own hz1 hg (fun k e=>⟨Nat.le_trans hz5 (hr k e).1,(hr k e).2⟩),h2.own hg (fun k e hk=>by have:=HLT.out k hk;have:=(hr k e).1;omega)⟩⟩
    case assign=>
     intro l x W' K hK
     gi_wp2_with fail
     simp only[List.zip_toArray,List.zip_cons_cons,List.foldl_toArray,List.foldl_cons,List.foldl_nil,List.zip_nil_left,List.zip_nil_right,List.setIfInBounds_toArray,List.set_cons_succ,List.set_cons_zero];exact hK
    case body=>
     rintro l pre x W2 ⟨rfl,hd,hmk,hkp⟩ hlt2;obtain⟨i0,ei,ez,es,ebb⟩:=info_parts infoAct2;have HDW:=qq hd;have HMW:=qq hmk;have HKW:=qq hkp;have hnl:=dueN_len S k;obtain⟨nd,hnd⟩:∃n,n=(dueN S k).length:=⟨_,rfl⟩
     obtain⟨a2,c2,hv2⟩:=row_slice hd.row;rw[←hnd] at hv2 hnl;subst hv2;have hrow2:=hd.row;rw[←hnd] at hrow2;have HR2:=qq hrow2;have HND:=qq hnd;obtain⟨l1,q1,f1⟩:=hd.out;obtain⟨l2,q2,f2⟩:=hkp;clear hd hmk hrow2 hnd hlt2
     gi_wp2_with (gi_at_builtin;refine wpListIn_append_own _ rfl _ _ 117 rfl w1.heap.size 36 i0 (.agg #[.int .i64 0,.int .i64 0]) 2 16 Tryz.underlying117 ei ez es ebb rfl (by decide) _ _ _ rfl (row_al HR2.out _) ⟨W2.heap.size,0,none⟩ 1 1 (idL (an,aq)) (by rfl) rfl (lit_cells (Blk.fresh _ _ _ _ rfl)) (idL_one _) ?d3 ?d4 ?d5 ?_)
     case d3=>unfold maxLen;omega
     case d4=>omega
     case d5=>have:=HDW.out.keep.1;simp;omega
     intro v2 w6 hown hgrow _;have hb6:=(Below.refl W2.heap.size W2).alloc (Nat.le_refl _) (.cells #[an,aq] 36);have HD2:=qq (HDW.out.snoc (x:=(an,aq)) hz1 hb6 hgrow (by rw[←HND.out];exact hown));have kO:Blk w6 w.heap.size #[.slice a2 nd c2]:=(HDW.out.out.below hb6).same hgrow.size (hgrow.block _ (HDW.out.out.below hb6).lt (fun e=>by have:=(HR2.out.lt _ e.symm).1;omega))
     obtain⟨a3,c3,rfl⟩:=row_slice hown;have HM2:=qq (((HMW.out.below hb6).own hgrow (fun D hD hk=>by
       obtain⟨o,ho⟩:∃o:Obj,(.deferred (some []):Obj)=o:=⟨_,rfl⟩
       have h1:=(HMW.out.2 D hk).2;rw[ho] at h1;have h2:=row_cells HR2.out hD h1;rw[←ho] at h2
       cases h2)).set w.heap.size 0 (.slice a3 (nd+1) c3) hz1)
     have HKF:Hid (KeepsFrom w5.heap.size W2 (w6.setCell ⟨w.heap.size,0,none⟩ (.slice a3 (nd+1) c3))):=qq ⟨by have h1:=hgrow.size;have h2:=hb6.size;rw[World.size_setCell];exact Nat.le_trans h2 h1,fun j o hj ho hc=>by
       have hjl:=(Array.getElem?_eq_some_iff.1 ho).1;have hne:j≠w.heap.size:=by have:=HDW.out.keep.1;omega
       refine(Below.heap_setCell _ _ _ _ hne).trans (((hgrow.block j (Nat.lt_of_lt_of_le hjl hb6.size) (fun e=> ?_)).trans (hb6.block j hjl)).trans ho);rw[row_cells HR2.out e.symm ho] at hc
       cases hc⟩
     obtain⟨lO,qO,fO⟩:=kO;clear hown hgrow hb6 q1 f1 l1 q2 f2 l2
     gi_wp2_with fail
     exact⟨HKF.out,rfl,by simp,_,HD2.out,HM2.out⟩
    case done=>
     rintro D xs W2 hD hxs ⟨rfl,hd,hmk,hkp⟩ hKd;have hnd:isDue ⟨an,aq,oc,dp,ex,pa,de,rs⟩=false:=by
      unfold isDue;have:vDirsN de rs rs.length=[]:=hxs.symm;simp[this]
     have HS2:=HS1.out;rw[hnd] at HS2;have HD2:Hid (DueAt w w1 W2 v (dueN S (k+1))):=qq (by rw[HS2];simpa using hd);have HM2:Hid (Marks w1 W2 (D::Ds)):=qq ⟨List.nodup_cons.2 ⟨fun e=>by have:=HLT.out D e;omega,hmk.1⟩,fun E hE=>by
       rcases List.mem_cons.1 hE with rfl | hE
       · exact⟨by omega,hKd⟩
       · exact hmk.2 E hE⟩
     clear hd hmk hkp hKd HS2 hxs
     gi_wp2_with fail
     refine⟨⟨k+1,v,D::Ds,_,_,_,_,_,_,_,_,_,by omega,rfl,HD2,HM2⟩,?_⟩;simp[intOf];omega
    case stop=>
     rintro D c pre W2 hD _ ⟨rfl,hne,v',hd,hmk⟩ hKd;have hnd:isDue ⟨an,aq,oc,dp,ex,pa,de,rs⟩=true:=by
      obtain⟨x,t,rfl⟩:=List.exists_cons_of_ne_nil hne;unfold isDue;exact decide_eq_true (dirs_some x)
     have HS2:=HS1.out;rw[hnd] at HS2;have HD2:Hid (DueAt w w1 W2 v' (dueN S (k+1))):=qq (by rw[HS2];simpa using hd);have HM2:Hid (Marks w1 W2 (D::Ds)):=qq ⟨List.nodup_cons.2 ⟨fun e=>by have:=HLT.out D e;omega,hmk.1⟩,fun E hE=>by
       rcases List.mem_cons.1 hE with rfl | hE
       · exact⟨by omega,hKd⟩
       · exact hmk.2 E hE⟩
     clear hd hmk hKd HS2
     gi_wp2_with fail
     refine⟨⟨k+1,v',D::Ds,_,_,_,_,_,_,_,_,_,by omega,rfl,HD2,HM2⟩,?_⟩;simp[intOf];omega
  · obtain rfl:k=m:=by omega
    have HD2:Hid (DueAt w w1 W v (vDue S)):=qq (by have:=HD.out;rw[HM.out,dueN_all] at this;exact this);obtain⟨l1,q1,f1⟩:=HD2.out.out
    gi_wp2_with fail
    refine leaves_marks Ds W HMK.out.1 (fun D hD=>(HMK.out.2 D hD).2) (fun W' e1 e2 e3 e4 e5=> ?_);refine⟨v,by simp[results,Tryz.results55,go_sem],?_⟩;obtain⟨B,hB⟩:=HEND.out _ _ _ HD2.out;have hb:=HD2.out.be
    refine⟨B,v,rfl,row_heap hB (fun j hj=>e5 j (fun hk=> ?_)),⟨e2.trans hb.os,e3.trans hb.tape,e4.trans hb.output,by rw[e1];exact hb.size,fun j hj=>(e5 j (fun hk=>by have:=(HMK.out.2 j hk).1;omega)).trans (hb.block j hj)⟩⟩;have h1:=(HMK.out.2 j hk).2;have h2:=row_cells hB hj h1
    cases h2
theorem fieldD (x y z:Value):∀w,(Instr.field 95 (.agg #[x,y,z]) 0).run Tryz.prog w=.ok x w:=fun _=>by kernel_rfl
theorem vFs_due (a:SAct):(vFs a.de a=[]↔isDue a=false):=by
 unfold vFs isDue;simp
theorem own_empty (w:World) (B:Nat) (T:TypeId) (size:Nat) (hB:B≤w.heap.size):(w.alloc (.cells #[] T)).ownsRow B T size (.slice (some ⟨w.heap.size,0,none⟩) 0 0) 0 []:=
 ⟨by simp,.inr ⟨w.heap.size,0,#[],rfl,hB,World.alloc_heap_new w _,Nat.le_refl _,by unfold maxLen;omega,by simp,by simp⟩⟩
theorem rdue18_of (R:RLoc) (S:Sto) (w:World) (h:RStoreAt R S w) (hG:StoGood S):Calls Tryz.prog 56 #[.pointer (some ⟨R.sb,0,none⟩)] w fun e w'=>∃B v,e=.returned v∧w'.ownsRow B 36 2 v (vDue S).length (idsL (vDue S))∧Below w.heap.size w w':=by
 obtain⟨av,cap,hv,hn,hrow⟩:=act_row h.len h.acts;have h2:w.cell? ⟨R.sb,2,none⟩=some (.slice av S.acts.length cap):=by rw[←hv];exact h.blk.cell 2
 have hs:=h.blk.lt;have HROW:Hid (∀(k:Nat) (a:SAct),S.acts[k]? =some a→∃g va vn vc,av=some ⟨g,0,none⟩∧∀W,Below w.heap.size w W→g<W.heap.size∧ActC W g (k*8) a (.slice va vn vc)):=qq (fun k a ha=>by
   have hi:=(List.getElem?_eq_some_iff.1 ha).1;obtain⟨g,h1,hg,_,hcell⟩:=hrow (by omega);obtain⟨u,hu⟩:∃u,R.rv[k]? =some u:=⟨_,List.getElem?_eq_getElem (by rw[h.len];exact hi)⟩
   obtain⟨va,vc,rfl,_,_⟩:=reg_row (h.regs k u a hu ha);exact⟨g,va,_,vc,h1,fun W hW=>⟨Nat.lt_of_lt_of_le hg hW.size,(hcell k a _ ha hu).below hW hg⟩⟩)
 have HC:=qq (fun(k:Nat) (a:SAct) (ha:S.acts[k]? =some a) W (hW:Below w.heap.size w W)=>rcarry18_of R S k a a.de W (h.below hW) hG ha);have hm8:=hG.acts;obtain⟨m,hm⟩:∃m,m=S.acts.length:=⟨_,rfl⟩
 have HM:=qq hm;rw[←hm] at h2 hm8;obtain⟨i0,ei,ez,es,eb⟩:=info_parts infoAct2;have HEND:Hid (∀(v:Value) (W':World),W'.ownsRow w.heap.size 36 2 v (vDue S).length (idsL (vDue S))→∃B,W'.ownsRow B 36 2 v (vDue S).length (idsL (vDue S))):=qq (fun v W' hd=>⟨_,hd⟩);clear h hG hv hn hrow hm;go_enter Tryz.func56,Tryz.ntmps56;go_wp2_with fail
 go_loopw [3,12] (fun o c wr=>∃(k:Nat),k≤m∧c=.int .i64 (k:Int)∧Hid (wr.ownsRow w.heap.size 36 2 o (dueN S k).length (idsL (dueN S k)))∧Hid (Below w.heap.size w wr)) (fun _ c _=>m - (intOf c).toNat)
 case atStart=>exact⟨0,by omega,by first | rfl | go_num,qq (own_empty w _ _ _ (Nat.le_refl _)),qq (by go_grown)⟩
 case round=>
  obtain⟨k,hk,rfl,HO,HB⟩:=hrel;obtain⟨a2,c2,rfl⟩:=row_slice HO.out;by_cases hlt:k<m
  · obtain⟨a,hak⟩:∃a,S.acts[k]? =some a:=⟨_,List.getElem?_eq_getElem (by rw[←HM.out];exact hlt)⟩
    have HS1:=qq (dueN_succ hak);obtain⟨g,va,vn,vc,rfl,hcell⟩:=HROW.out k a hak;obtain⟨hgl,c0,c1,c2',c3,c4,c5,c6,c7⟩:=hcell wr HB.out;have HCK:=qq (HC.out k a hak);have HVD:=qq (vFs_due a);have hk0:(0:Int)≤(k:Int):=by omega
    have hk1:(k:Int)<(m:Int):=by omega
    have hnl:=dueN_len S k;obtain⟨an,aq,oc,dp,ex,pa,de,rs⟩:=a;dsimp only at*;obtain⟨ms,hms⟩:∃ms,ms=vMs S de ⟨an,aq,oc,dp,ex,pa,de,rs⟩:=⟨_,rfl⟩
    obtain⟨fs,hfs⟩:∃fs,fs=vFs de ⟨an,aq,oc,dp,ex,pa,de,rs⟩:=⟨_,rfl⟩
    rw[←hms,←hfs] at HCK;rw[←hfs] at HVD;obtain⟨nd,hnd⟩:∃n,n=(dueN S k).length:=⟨_,rfl⟩
    have HR2:=HO;rw[←hnd] at HR2 hnl;have HND:=qq hnd;rw[←hnd];clear hak hcell hms hfs hnd;go_wp2_with fail;have hb2:=(Below.refl wr.heap.size wr).alloc (Nat.le_refl _) (.cells #[an,aq,oc,dp,.float .f64 ex,pa,de,.slice va vn vc] 116);refine(HCK.out _ (below_then HB.out hb2)).mono ?_;rintro e w3 ⟨fa,fc,ma,mc,rfl,_,_,_,hb3⟩;have HBW:=qq (below_then hb2 hb3)
    have KP:=qq ((Blk.fresh wr #[an,aq,oc,dp,.float .f64 ex,pa,de,.slice va vn vc] 116 _ rfl).below hb3);have HO3:=qq (row_be HR2.out HBW.out);have HB3:=qq (below_then HB.out HBW.out);have hfd:=fieldD;obtain⟨nf,hnf⟩:∃n,n=fs.length:=⟨_,rfl⟩
    rw[←hnf];obtain⟨l2,q2,f2⟩:=KP.out;clear hb2 hb3 c0 c1 c2' c3 c4 c5 c6 c7;by_cases hd:isDue ⟨an,aq,oc,dp,ex,pa,de,rs⟩=true
    · have hpos:0<nf:=by
       rw[hnf];refine List.length_pos_iff.2 (fun e=> ?_);rw[HVD.out.1 e] at hd
       cases hd
      have HS2:=HS1.out;rw[if_pos hd] at HS2;have HS3:=qq HS2;clear hnf hd HS1 HS2
      go_wp2_with (at_builtin;refine wpList_append_own_at _ rfl _ _ 117 rfl w.heap.size 36 i0 (.agg #[.int .i64 0,.int .i64 0]) 2 16 Tryz.underlying117 ei ez es eb rfl (by decide) _ _ _ rfl (row_al HO3.out _) ⟨w3.heap.size,0,none⟩ 1 1 (idL (an,aq)) (by rfl) rfl (lit_cells (Blk.fresh _ _ _ _ rfl)) (idL_one _) ?d3 ?d4 ?d5 ?_)
      case d3=>unfold maxLen;omega
      case d4=>omega
      case d5=>have:=HB3.out.size;simp;omega
      intro v2 w6 hown hgrow _ _;have hb6:=(Below.refl w3.heap.size w3).alloc (Nat.le_refl _) (.cells #[an,aq] 36);have HB6:=qq ((below_then HB3.out hb6).grown hgrow (below_then HB3.out hb6).size (fun j hj=>(HO3.out.lt j hj).1));have HO6:Hid (w6.ownsRow w.heap.size 36 2 v2 (dueN S (k+1)).length (idsL (dueN S (k+1)))):=qq (by
        rw[HS3.out];unfold idsL at hown⊢;rw[List.length_append,List.flatMap_append,←HND.out];simpa using hown)
      clear hown hgrow hb6 q2 f2 l2;go_wp2_with fail;go_roundw
      case rel=>exact⟨k+1,by omega,by go_num,HO6,HB6⟩
      case measure=>simp[intOf];omega
    · have hnot:isDue ⟨an,aq,oc,dp,ex,pa,de,rs⟩=false:=by simpa using hd
      obtain rfl:nf=0:=by rw[hnf,HVD.out.2 hnot];rfl
      have HS2:=HS1.out;rw[if_neg hd,List.append_nil] at HS2;have HO6:Hid (w3.ownsRow w.heap.size 36 2 (.slice a2 nd c2) (dueN S (k+1)).length (idsL (dueN S (k+1)))):=qq (by rw[HS2,←HND.out];exact HO3.out);clear hnf hd HS1 HS2;go_wp2_with fail;go_roundw
      case rel=>exact⟨k+1,by omega,by go_num,HO6,HB3⟩
      case measure=>simp[intOf];omega
  · obtain rfl:k=m:=by omega
    have hx:=HEND.out _ wr (by have:=HO.out;rw[HM.out,dueN_all] at this;exact this);obtain⟨B,hB⟩:=hx;have HX:=qq hB;have hlen:(dueN S k).length=(vDue S).length:=by rw[HM.out,dueN_all]
    have HLN:=qq hlen;clear hB hlen;go_wp2_with fail;go_ret;exact⟨B,_,rfl,by rw[HLN.out];exact HX.out,HB.out⟩
theorem num_of (n:Int) (h:0≤n∧n≤14) (ea:Int→Addr) (w:World) (hE:EnvS ea w):Calls Tryz.prog 20 #[errOf ea n] w (Makes (.int .i64 n) w):=by
 unfold errOf;split
 · rename_i h0;subst h0;exact num_nil w
 · exact num_some n (by omega) ea w hE.e
def fzero (f:SFact) (ns:List Int):Bool:=(List.range 13).all fun i=>i==0 || ((fnums f).getD i 0==0 || ns.contains (i:Int))
def fnamed (k:Int):List Int:=if k=1 then[1,2,7,8,9] else if k=2 then[1,2,3,4,5,6] else if k=3 then[1,2,3,10,11] else if k=4 then[1,2,12] else if k=5 then[1,2] else if k=6 then[1,2,5,6] else if k=7 then[3,5] else if k=8 then[5,10,11] else[]
theorem rfok_eq (f:SFact):(fzero f (fnamed f.k) && (fpk f && (f.k==1 || decide (f.ex=0))))=fok f:=by
 obtain⟨k,an,aq,rg,nd,pt,pr,oc,dp,pa,st,hw,de,ex⟩:=f;by_cases h1:k=1
 · subst h1;simp only[fpk,fok,fnamed,fzero,fnums,if_true,if_false];generalize idOk an aq=b1;generalize stOk st hw=b2;generalize ctxOk an aq oc dp ex=b3;rw[Bool.eq_iff_iff]
   cases b1<;>cases b2<;>cases b3<;>simp[List.range,List.range.loop]<;>omega
 by_cases h2:k=2
 · subst h2;simp only[fpk,fok,fnamed,fzero,fnums,if_true,if_false,show ¬((2:Int)=1) by decide];generalize idOk an aq=b1;generalize stOk st hw=b2;generalize ctxOk an aq oc dp ex=b3;rw[Bool.eq_iff_iff]
   cases b1<;>cases b2<;>cases b3<;>simp[List.range,List.range.loop]<;>omega
 by_cases h3:k=3
 · subst h3;simp only[fpk,fok,fnamed,fzero,fnums,if_true,if_false,show ¬((3:Int)=1) by decide,show ¬((3:Int)=2) by decide];generalize idOk an aq=b1;generalize stOk st hw=b2;generalize ctxOk an aq oc dp ex=b3;rw[Bool.eq_iff_iff]
   cases b1<;>cases b2<;>cases b3<;>simp[List.range,List.range.loop]<;>omega
 by_cases h4:k=4
 · subst h4;simp only[fpk,fok,fnamed,fzero,fnums,if_true,if_false,show ¬((4:Int)=1) by decide,show ¬((4:Int)=2) by decide,show ¬((4:Int)=3) by decide];generalize idOk an aq=b1;generalize stOk st hw=b2;generalize ctxOk an aq oc dp ex=b3;rw[Bool.eq_iff_iff]
   cases b1<;>cases b2<;>cases b3<;>simp[List.range,List.range.loop]<;>omega
 by_cases h5:k=5
 · subst h5;simp only[fpk,fok,fnamed,fzero,fnums,if_true,if_false,show ¬((5:Int)=1) by decide,show ¬((5:Int)=2) by decide,show ¬((5:Int)=3) by decide,show ¬((5:Int)=4) by decide];generalize idOk an aq=b1;generalize stOk st hw=b2;generalize ctxOk an aq oc dp ex=b3;rw[Bool.eq_iff_iff]
   cases b1<;>cases b2<;>cases b3<;>simp[List.range,List.range.loop]<;>omega
 by_cases h6:k=6
 · subst h6;simp only[fpk,fok,fnamed,fzero,fnums,if_true,if_false,show ¬((6:Int)=1) by decide,show ¬((6:Int)=2) by decide,show ¬((6:Int)=3) by decide,show ¬((6:Int)=4) by decide,show ¬((6:Int)=5) by decide];generalize idOk an aq=b1;generalize stOk st hw=b2;generalize ctxOk an aq oc dp ex=b3;rw[Bool.eq_iff_iff]
   cases b1<;>cases b2<;>cases b3<;>simp[List.range,List.range.loop]<;>omega
 by_cases h7:k=7
 · subst h7;simp only[fpk,fok,fnamed,fzero,fnums,if_true,if_false,show ¬((7:Int)=1) by decide,show ¬((7:Int)=2) by decide,show ¬((7:Int)=3) by decide,show ¬((7:Int)=4) by decide,show ¬((7:Int)=5) by decide,show ¬((7:Int)=6) by decide];generalize idOk an aq=b1;generalize stOk st hw=b2;generalize ctxOk an aq oc dp ex=b3;rw[Bool.eq_iff_iff]
   cases b1<;>cases b2<;>cases b3<;>simp[List.range,List.range.loop]<;>omega
 by_cases h8:k=8
 · subst h8;simp only[fpk,fok,fnamed,fzero,fnums,if_true,if_false,show ¬((8:Int)=1) by decide,show ¬((8:Int)=2) by decide,show ¬((8:Int)=3) by decide,show ¬((8:Int)=4) by decide,show ¬((8:Int)=5) by decide,show ¬((8:Int)=6) by decide,show ¬((8:Int)=7) by decide];generalize idOk an aq=b1;generalize stOk st hw=b2;generalize ctxOk an aq oc dp ex=b3;rw[Bool.eq_iff_iff]
   cases b1<;>cases b2<;>cases b3<;>simp[List.range,List.range.loop]<;>omega
 simp[fpk,fok,h1,h2,h3,h4,h5,h6,h7,h8]
def IntsAt (w:World) (g:Nat) (xs:List Int):Prop:=∀i (h:i<xs.length),w.cell? ⟨g,i,none⟩=some (.int .i64 xs[i])
def Draws (v:Value) (w:World) (e:Ending) (w':World):Prop:=e=.returned v∧∃n,w'=w.drewN n
theorem OwnI.drewN {B:Nat} {v:Value} {xs:List Int} {w:World} (h:OwnI B v xs w) (n:Nat):OwnI B v xs (w.drewN n):=h
theorem Below.drewN {B:Nat} {a w:World} (h:Below B a w) (n:Nat):Below B a (w.drewN n):=⟨h.os,h.tape,h.output,h.size,h.block⟩
theorem RowsAt.alloc {w:World} {b:Nat} {rs:List Row} (h:RowsAt w b rs) (o:Obj):RowsAt (w.alloc o) b rs:=h.below ((Below.refl _ _).alloc (Nat.le_refl _) o)
theorem ActsAt.alloc {w:World} {b:Nat} {rs:List Act'} (h:ActsAt w b rs) (o:Obj):ActsAt (w.alloc o) b rs:=h.below ((Below.refl _ _).alloc (Nat.le_refl _) o)
def ReadI (w:World) (v:Value) (xs:List Int):Prop:=∃a cap,v=.slice a xs.length cap∧(xs≠[]→∃g,a=some ⟨g,0,none⟩∧g<w.heap.size∧IntsAt w g xs)
theorem OwnI.read {B:Nat} {v:Value} {xs:List Int} {w:World} (h:OwnI B v xs w):ReadI w v xs:=by
 rcases h.2 with⟨rfl,h0⟩ | ⟨g,cap,cur,rfl,_,hb,_,_,_,_⟩
 · exact⟨none,0,by rw[h0],fun hne=>absurd (List.eq_nil_of_length_eq_zero h0) hne⟩
 · refine⟨_,cap,rfl,fun _=>⟨g,rfl,(Array.getElem?_eq_some_iff.1 hb).1,fun i hi=> ?_⟩⟩;have h':w.ownsRow B 3 1 (.slice (some ⟨g,0,none⟩) xs.length cap) xs.length (xs.map (Value.int .i64)):=h;rw[h'.cellAt i (by simpa using hi)];simp[List.getElem?_eq_getElem hi]
theorem ReadI.below {w w':World} {v:Value} {xs:List Int} (h:ReadI w v xs) (hb:Below w.heap.size w w'):ReadI w' v xs:=by
 obtain⟨a,cap,rfl,h⟩:=h;refine⟨a,cap,rfl,fun hne=> ?_⟩;obtain⟨g,h1,h2,h3⟩:=h hne;exact⟨g,h1,Nat.lt_of_lt_of_le h2 hb.size,fun i hi=>(hb.cell (p:=⟨g,i,none⟩) h2).trans (h3 i hi)⟩
theorem Draws.below {v:Value} {w w':World} {e:Ending} (h:Draws v w e w'):e=.returned v∧Below w.heap.size w w':=by
 obtain⟨h1,n,rfl⟩:=h;exact⟨h1,Below.drewN (Below.refl _ _) n⟩
theorem in_any (xs : List Int) (n : Int) (v : Value) (w : World) (h : ReadI w v xs) (hl : xs.length ≤ 1000) :
    Calls Tryz.prog 199 #[v,.int .i64 n] w (Gives (.bool (xs.contains n)) w):=by
 obtain⟨a1,c1,rfl,h1⟩:=h;by_cases hne:xs=[]
 · subst hne;clear h1;simp only[List.length_nil];go_enter Tryz.func199,Tryz.ntmps199;go_wp2;refine wp_loop_rounds 1 ?_;rw[rounds_succ];go_wp2;go_ret;exact⟨rfl,rfl⟩
 · obtain⟨g1,rfl,_,i1⟩:=h1 hne;have I1:=qq i1;clear i1 h1 hne;go_enter Tryz.func199,Tryz.ntmps199;go_wp2;go_loop [9] (fun i=>∃k:Nat,k≤xs.length∧i=.int .i64 k∧Hid (∀j,(h:j<xs.length)→j<k→xs[j]≠n)) (fun i=>xs.length - (intOf i).toNat)
   case atStart=>exact⟨0,by omega,rfl,qq (fun j _ hj=>absurd hj (Nat.not_lt_zero _))⟩
   case round=>
    obtain⟨k,hk,rfl,HN⟩:=hrel;by_cases hlt:k<xs.length
    · have a1:=I1.out k hlt;by_cases hx:xs[k]=n
      · have hmem:xs.contains n=true:=by simp only[List.contains_eq_mem,decide_eq_true_eq];rw[←hx];exact List.getElem_mem _
        rw[hx] at a1;have HM:=qq hmem;clear hmem hx;go_wp2;go_ret;exact⟨ret_bool (by have:=HM.out;simp at this;simp[this]),rfl⟩
      · have hx':(xs[k]==n)=false:=by simpa using hx
        obtain⟨x,hxk⟩:∃x,x=xs[k]:=⟨_,rfl⟩
        rw[←hxk] at a1 hx';have HX:=qq hx;clear hx hxk;go_wp2;go_round
        case rel=>
         refine⟨k+1,by omega,by go_num,qq (fun j h hj=> ?_)⟩;rcases Nat.lt_succ_iff_lt_or_eq.1 hj with h' | rfl
         · exact HN.out j h h'
         · exact HX.out
        case measure=>simp[intOf];omega
    · have hmem:xs.contains n=false:=by
       simp only[List.contains_eq_mem,decide_eq_false_iff_not];intro hm;obtain⟨i,hi,rfl⟩:=List.mem_iff_getElem.1 hm;exact HN.out i hi (by omega) rfl
      have HM:=qq hmem;clear hmem;go_wp2;go_ret;exact⟨ret_bool (by have:=HM.out;simp at this;simp[this]),rfl⟩
end Go.Proofs.YtlkajejbfojkeaaGreatDoor
