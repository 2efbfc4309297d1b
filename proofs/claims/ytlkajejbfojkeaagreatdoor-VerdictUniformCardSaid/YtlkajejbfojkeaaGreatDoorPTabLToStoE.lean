/- TabL, MovNw, StoC, StoU, StoE -/
import Derived.Test.YtlkajejbfojkeaaGreatDoorPFacDToFacI
import Derived.Deep.AppendLies
set_option linter.unusedSimpArgs false
set_option linter.unusedVariables false
set_option maxRecDepth 100000
set_option maxHeartbeats 16000000
namespace Go.Proofs.YtlkajejbfojkeaaGreatDoor
open Go.RowKit
def OwnI (B:Nat) (v:Value) (xs:List Int) (w:World):Prop:=w.ownsRow B 3 1 v xs.length (xs.map (Value.int .i64))
theorem infoInt:(Tryz.prog.info? 3).map (fun i=>(i.zero,i.size,i.bytes))=some (some (.int .i64 0),1,8):=by kernel_rfl
def MakesI (xs:List Int) (w:World) (e:Ending) (w':World):Prop:=∃v,e=.returned (.tuple #[v,.nilIface])∧OwnI w.heap.size v xs w'∧Below w.heap.size w w'
theorem ownsRow_mono {w:World} {B B':Nat} {e:TypeId} {size:Nat} {v:Value} {n:Nat} {xs:List Value} (h:w.ownsRow B e size v n xs) (hB:B'≤B):w.ownsRow B' e size v n xs:=by
 refine⟨h.1,?_⟩;rcases h.2 with hn | ⟨g,cap,cur,rfl,hb,r⟩
 · exact .inl hn
 · exact .inr ⟨g,cap,cur,rfl,by omega,r⟩
theorem OwnI.mono {B B':Nat} {v:Value} {xs:List Int} {w:World} (h:OwnI B v xs w) (hB:B'≤B):OwnI B' v xs w:=ownsRow_mono h hB
def Bytes (w:World) (b:Nat) (s:ByteArray):Prop:=b<w.heap.size∧∀i,i<s.size→w.cell? ⟨b,i,none⟩=some (.int .u8 (chr s i))
theorem bytesRow_at (s:ByteArray) (c i:Nat) (h:i<s.size):(bytesRow s c)[i]? =some (.int .u8 (chr s i)):=by
 unfold bytesRow;rw[Array.getElem?_append_left (by simpa using h)];have h':i<s.data.size:=h;simp only[Array.getElem?_map,Array.getElem?_eq_getElem h',Option.map_some];congr 2;exact chr_at h
theorem Bytes.grown {w w':World} {b:Nat} {s:ByteArray} {row:Option Nat} (h:Bytes w b s) (hg:w.grownBy w' row) (hne:some b≠row):Bytes w' b s:=
 ⟨Nat.lt_of_lt_of_le h.1 hg.size,fun i hi=>hg.cell (h.2 i hi) hne⟩
def pick (s:ByteArray) (k:Nat):List Int:=(List.range k).filterMap fun i=>if chr s i=46 then none else some ((i:Int)+1)
theorem pick_succ (s:ByteArray) (k:Nat):pick s (k+1)=pick s k ++(if chr s k=46 then[] else[(k:Int)+1]):=by
 unfold pick;rw[List.range_succ,List.filterMap_append];congr 1;by_cases h:chr s k=46<;>simp[h]
theorem pick_le (s:ByteArray) (k:Nat):(pick s k).length≤k:=by
 unfold pick;have:=List.length_filterMap_le (fun i=>if chr s i=46 then none else some ((i:Int)+1)) (List.range k);simpa using this
theorem states_tab (p d : Int) (t : Tab) (kind en : Int) (str : ByteArray) (rs : List Row) (w : World) (ht : tabOf p d = some t) (hrw : t.rows = (kind, str, en) :: rs) :
    Calls Tryz.prog 220 #[.int .i64 p,.int .i64 d] w (MakesI (pick str 14) w):=by
 have hwf:=wf_tab ht;obtain⟨_,hne,hl,_,hsz,_⟩:=hwf;have HT:=qq ht;clear ht;obtain⟨rw,acts,waits⟩:=t;simp only at hne hsz hl hrw;subst hrw;have hsz:=hsz _ (List.mem_cons_self ..);simp only at hsz;simp only[List.length_cons] at hl;have hcv:=fun w=>run_bytes_of_string (P:=Tryz.prog) w 9 65 5 str Tryz.underlying9 Tryz.underlying65 Tryz.underlying5
 rw[hsz] at hcv;have HSZ:=qq hsz;clear hsz hne;obtain⟨i0,ei,ez,es,eb⟩:=info_parts infoInt;go_enter Tryz.func220,Tryz.ntmps220;go_wp2_with (first
   | (go_at_call 245;refine(of_yes p d _ _ HT.out).mono ?_;rintro e w1 ⟨v,rfl,hT,hb1⟩;obtain⟨br,ba,b1,b2,rfl,hr,ha⟩:=hT;obtain⟨c1,c2,c3⟩:=hr.2 0 (by simp);simp only[List.getElem_cons_zero,Nat.zero_mul,Nat.zero_add] at c1 c2 c3;have hz1:=hb1.size;have hbr:=hr.1))
 clear c1 c2 c3 hcv;go_loopw [8,27] (fun v i wr=>∃k:Nat,k≤14∧i=.int .i64 k∧OwnI (w1.heap.size+2) v (pick str k) wr∧Below w.heap.size w wr∧Hid (Bytes wr (w1.heap.size+1) str)∧w1.heap.size+2≤wr.heap.size) (fun _ i _=>14 - (intOf i).toNat)
 case atStart=>
  refine⟨0,by omega,rfl,World.ownsRow_nil _ _ _ _,?_,qq ⟨by simp,fun i hi=> ?_⟩,by simp⟩
  · exact(((hb1.alloc hb1.size _).alloc (by simp;omega) _).drew)
  · rw[←bytesRow_at str _ i hi];have:=World.cell?_alloc_mark (w1.alloc (.cells #[Value.slice (some {block:=br,off:=0}) (rs.length+1) (rs.length+1),Value.slice (some {block:=ba,off:=0}) acts.length acts.length,Value.string waits] 323));simp only[World.size_alloc] at this;exact this _ _ _ _
 case round=>
  obtain⟨k,hk,rfl,hown,hB,HBy,hwz⟩:=hrel;have hrow:wr.ownsRow (w1.heap.size+2) 3 1 _ (pick str k).length ((pick str k).map (Value.int .i64)):=hown;by_cases hlt:k<14
  · have hcell:=HBy.out.2 k (by rw[HSZ.out];exact hlt);have hbd:=chr_bd str k;have hpl:=pick_le str k;have hps:=pick_succ str k;by_cases hc:chr str k=46
    · have hc':(chr str k !=46)=false:=by simpa using hc
      rw[if_pos hc,List.append_nil] at hps;have HPS:=qq hps;clear hps hc;go_wp2_with fail;go_roundw
      case rel=>exact⟨k+1,by omega,by go_num,by rw[HPS.out];exact hown,hB,HBy,hwz⟩
      case measure=>simp[intOf];omega
    · have hc':(chr str k !=46)=true:=by simpa using hc
      rw[if_neg hc] at hps;have HPS:=qq hps;clear hps hc;go_wp2_with (at_builtin;go_loud (refine wpList_append_own _ rfl _ _ 182 rfl (w1.heap.size+2) 3 i0 (.int .i64 0) 1 8 Tryz.underlying182 ei ez es eb rfl (by decide) _ _ _ rfl (hrow.alloc _) ⟨wr.heap.size,0,none⟩ 1 1 [.int .i64 ((k:Int)+1)] rfl rfl ?c1 ?c2 ?c3 ?c4 ?c5 ?_))
      case c1=>
       intro j u hj
       match j,hj with
       | 0,hj=>simp at hj;subst hj;simp[Addr.add]
      case c2=>intro u hu;simp at hu;subst hu;rfl
      case c3=>unfold maxLen;omega
      case c4=>omega
      case c5=>simp;omega
      · intro v' w2 hown' hgrow _;have hlt':=hrow.lt;have hwz':=hgrow.size;simp only[World.size_alloc] at hwz';have hB':Below w.heap.size w w2:=(hB.alloc hB.size _).grown hgrow (by have:=hB.size;simp;omega) (fun k hk=>by have:=(hlt' k hk).1;omega);have HBy':Bytes w2 (w1.heap.size+1) str:=(HBy.out.grown (World.grownBy_alloc _ _ none) (by simp)).grown hgrow (fun e=>by have:=(hlt' _ e.symm).1;omega)
        have hown2:OwnI (w1.heap.size+2) v' (pick str (k+1)) w2:=by
         rw[HPS.out];unfold OwnI;rw[List.length_append,List.map_append];exact hown'
        clear hown' hgrow hlt' hown hrow hcell;go_wp2;go_roundw
        case rel=>exact⟨k+1,by omega,by go_num,hown2,hB',qq HBy',by omega⟩
        case measure=>simp[intOf];omega
  · obtain rfl:k=14:=by omega
    go_wp2_with fail;go_ret2;exact⟨_,rfl,hown.mono (by omega),hB⟩
theorem sSome_of_side {p d:Int} (h:rSide p d=true):∃t,tabOf p d=some t:=by
 cases ht:tabOf p d with
 | some t=>exact⟨t,rfl⟩
 | none=>rw[tabOf_none ht] at h;cases h
theorem sTab_head {p d:Int} {t:Tab} (ht:tabOf p d=some t):∃k s e r,t.rows=(k,s,e)::r:=by
 rcases tabOf_cases ht with⟨rfl,rfl,rfl⟩ | ⟨rfl,rfl,rfl⟩ | ⟨rfl,rfl,rfl⟩ | ⟨rfl,rfl,rfl⟩
 all_goals exact⟨_,_,_,_,rfl⟩
theorem seatNew_of (p d:Int) (w:World) (hp:1≤p∧p≤2) (hd:d=1∨d=2):Calls Tryz.prog 132 #[.int .i64 p,.int .i64 d] w (Makes (.tuple #[.agg #[p,d,.int .i64 1,.int .i64 0],.nilIface]) w):=by
 have h:rSide p d=true:=by
  obtain rfl | rfl:p=1∨p=2:=by omega
  all_goals (rcases hd with rfl | rfl<;>decide)
 obtain⟨t,ht⟩:=sSome_of_side h;obtain⟨k,s,en,r,hr⟩:=sTab_head ht;have HS:=qq (fun W=>states_tab p d t k en s r W ht hr);clear ht hr h hp hd;go_enter Tryz.func132,Tryz.ntmps132
 go_wp2_with (go_at_call 220;refine(HS.out _).mono ?_;rintro e w1 ⟨v,rfl,_,hb1⟩;obtain⟨q2,f2⟩:=((Blk.fresh w _ _ _ rfl).below hb1).out;have hz1:=hb1.size;simp only[World.size_alloc] at hz1;have B1:Below w.heap.size w w1:=below_then (by go_grown) hb1);exact bodyPost_ret (v:=.tuple #[.agg #[p,d,.int .i64 1,.int .i64 0],.nilIface]) (by simp[results,Tryz.results132,go_sem,q2,f2]) rfl ⟨rfl,by go_grown⟩
theorem turn_yes (g o : Nat) (x t : MSeat) (f : SFact) (ea : Int → Addr) (w : World) (hE : Err3 ea w) (hg : g < w.heap.size) (ht : sturn x f.st f.hw = some t)
    (c0:w.cell? ⟨g,o,none⟩=some (.int .i64 x.p)) (c1:w.cell? ⟨g,o+1,none⟩=some (.int .i64 x.d)) (c2:w.cell? ⟨g,o+2,none⟩=some (.int .i64 x.s)) (c3:w.cell? ⟨g,o+3,none⟩=some (.int .i64 x.h)) (hf:∀i,w.frozen? ⟨g,i,none⟩=false):
    Calls Tryz.prog 190 #[.pointer (some ⟨g,o,none⟩),factV f] w fun e w'=>e=.returned (.bool true)∧∃w1,Below w.heap.size w w1∧w'=putSeat4 w1 g o t:=by
 obtain⟨t1,t2,t3⟩:=sturn_some ht;have hR:=fun W hW=>right_of t ea W hW
 rw[t3] at hR;rw[t2] at hR⊢;dsimp only[seatV] at hR;obtain⟨k,an,aq,rg,nd,pt,pr,oc,dp,pa,st,hw,de,ex⟩:=f;obtain⟨p,d,s,hh⟩:=x;dsimp only[factV,factC] at*;have HR:=qq hR;have HE:=qq hE;have d14:(s==14)=false:=by simpa using t1
 have C:=qq (And.intro c0 (And.intro c1 (And.intro c2 (And.intro c3 hf))));have HG:=qq hg;clear hR hE t1 t2 t3 ht;go_enter Tryz.func190,Tryz.ntmps190;go_wp2_with fail;go_region
 all_goals go_wp2_with fail
 all_goals (refine(HR.out _ (HE.out.below (by go_grown))).mono ?_)
 all_goals (rintro e w1 ⟨rfl,hb1⟩)
 all_goals (obtain⟨q1,f1⟩:=(((Blk.fresh _ #[p,d,st,hw] 53 (w.heap.size+1) (by simp)).drew).below hb1).out)
 all_goals (have B1:Below w.heap.size w w1:=below_then (by go_grown) hb1)
 all_goals (have hlt:=HG.out;have hz1:=hb1.size;simp only[World.size_alloc,World.size_drew] at hz1)
 all_goals (have c0:=(B1.cell (p:=⟨g,o,none⟩) hlt).trans C.out.1;have c1:=(B1.cell (p:=⟨g,o+1,none⟩) hlt).trans C.out.2.1;have c2:=(B1.cell (p:=⟨g,o+2,none⟩) hlt).trans C.out.2.2.1;have c3:=(B1.cell (p:=⟨g,o+3,none⟩) hlt).trans C.out.2.2.2.1;have c4:=fun i=>(B1.frozen (p:=⟨g,i,none⟩) hlt).trans (C.out.2.2.2.2 i))
 all_goals go_wp2_with fail
 all_goals go_ret
 all_goals exact⟨rfl,w1,B1,rfl⟩
theorem turn_no (g o : Nat) (x : MSeat) (f : SFact) (ea : Int → Addr) (w : World) (hE : Err3 ea w) (hg : g < w.heap.size) (ht : sturn x f.st f.hw = none)
    (c0:w.cell? ⟨g,o,none⟩=some (.int .i64 x.p)) (c1:w.cell? ⟨g,o+1,none⟩=some (.int .i64 x.d)) (c2:w.cell? ⟨g,o+2,none⟩=some (.int .i64 x.s)):
    Calls Tryz.prog 190 #[.pointer (some ⟨g,o,none⟩),factV f] w (Makes (.bool false) w):=by
 have hor:x.s=14∨mRight ⟨x.p,x.d,f.st,f.hw⟩=false:=by
  unfold sturn at ht;split at ht
  · assumption
  · cases ht
 have hR:=fun W hW=>right_of ⟨x.p,x.d,f.st,f.hw⟩ ea W hW
 dsimp only[seatV] at hR;obtain⟨k,an,aq,rg,nd,pt,pr,oc,dp,pa,st,hw,de,ex⟩:=f;obtain⟨p,d,s,hh⟩:=x;dsimp only[factV,factC] at*;have HE:=qq hE;have C:=qq (And.intro c0 (And.intro c1 c2));by_cases h14:s=14
 · subst h14;clear hR hE ht hor;go_enter Tryz.func190,Tryz.ntmps190;go_wp2_with fail;go_region
   all_goals go_wp2_with fail
   all_goals go_ret
   all_goals exact⟨rfl,by go_grown⟩
 · have d14:(s==14)=false:=by simpa using h14
   rw[hor.resolve_left h14] at hR;have HR:=qq hR;clear hR hE ht hor h14;go_enter Tryz.func190,Tryz.ntmps190;go_wp2_with fail;go_region
   all_goals go_wp2_with fail
   all_goals (refine(HR.out _ (HE.out.below (by go_grown))).mono ?_)
   all_goals (rintro e w1 ⟨rfl,hb1⟩)
   all_goals (have B1:Below w.heap.size w w1:=below_then (by go_grown) hb1)
   all_goals go_wp2_with fail
   all_goals go_ret
   all_goals exact⟨rfl,B1⟩
theorem heap_seat (w:World) (g o:Nat) (t:MSeat) (k:Nat) (h:k≠g):(putSeat4 w g o t).heap[k]? =w.heap[k]? :=by
 unfold putSeat4;rw[Below.heap_setCell _ _ _ _ h,Below.heap_setCell _ _ _ _ h,Below.heap_setCell _ _ _ _ h,Below.heap_setCell _ _ _ _ h]
theorem size_seat (w:World) (g o:Nat) (t:MSeat):(putSeat4 w g o t).heap.size=w.heap.size:=by unfold putSeat4;simp
theorem StoreAt.parts_in {L:SLoc} {S:Sto} {w w':World} (h:StoreAt L S w) (ps:List SPart) (hz:w.heap.size≤w'.heap.size) (he:∀k,L.pv.ownBlock≠some k→k<w.heap.size→w'.heap[k]? =w.heap[k]?) (hrow:w'.ownsRow 0 61 7 L.pv ps.length (partsL ps)):StoreAt L {S with parts:=ps} w':=by
 have hn:=h.ne_top;refine⟨h.blk.same hz (he _ hn.2.1 h.blk.lt),row_heap h.acts (fun k hk=>he k (hn.2.2 k hk) (h.acts.lt k hk).2),hrow,fun j y b hy hb=> ?_,h.once⟩;obtain⟨b1,b2⟩:=h.act j y b hy hb;have hne:=h.ne_act hy;exact⟨b1.same hz (he _ hne.2.2.1 b1.lt),row_heap b2 (fun k hk=>he k (hne.2.2.2.2.2 k hk).2 (b2.lt k hk).2)⟩
theorem StoreAt.parts_to {L:SLoc} {S:Sto} {w w':World} (h:StoreAt L S w) (pv':Value) (ps:List SPart) (hz:w.heap.size≤w'.heap.size) (he:∀k,L.pv.ownBlock≠some k→k≠L.sb→k<w.heap.size→w'.heap[k]? =w.heap[k]?) (hblk:Blk w' L.sb #[S.node,S.next,L.av,pv']) (hrow:w'.ownsRow 0 61 7 pv' ps.length (partsL ps)) (hm:Moved L.foot L.pv pv'):StoreAt ⟨L.sb,L.av,pv',L.ab⟩ {S with parts:=ps} w':=by
 have hn:=h.ne_top;refine⟨hblk,row_heap h.acts (fun k hk=>he k (hn.2.2 k hk) (fun e=>hn.1 (by rw[hk,e])) (h.acts.lt k hk).2),hrow,fun j y b hy hb=> ?_,once_pv h.once hm⟩;obtain⟨b1,b2⟩:=h.act j y b hy hb;have hne:=h.ne_act hy;exact⟨b1.same hz (he _ hne.2.2.1 hne.1 b1.lt),row_heap b2 (fun k hk=>he k (hne.2.2.2.2.2 k hk).2 (fun e=>hne.2.2.2.2.1 (by rw[hk,e])) (b2.lt k hk).2)⟩
theorem ptrs_set (ab:List (Nat×Value)) (i:Nat) (x:Nat×Value) (v':Value) (hx:ab[i]? =some x):ptrs (ab.set i (x.1,v'))=ptrs ab:=by
 unfold ptrs;rw[List.map_set];obtain⟨hi,he⟩:=List.getElem?_eq_some_iff.1 hx;have e:(Value.pointer (some ⟨x.1,0,none⟩))=(ab.map fun x=>Value.pointer (some ⟨x.1,0,none⟩))[i]'(by simpa using hi):=by simp[he]
 show(ab.map fun x=>Value.pointer (some ⟨x.1,0,none⟩)).set i (Value.pointer (some ⟨x.1,0,none⟩))=_
 rw[e,List.set_getElem_self]
theorem StoreAt.act_in {L : SLoc} {S : Sto} {w w' : World} {i : Nat} {x : Nat × Value} {a : SAct} (h : StoreAt L S w) (hx : L.ab[i]? = some x) (ha : S.acts[i]? = some a) (v' : Value) (a' : SAct) (hz : w.heap.size ≤ w'.heap.size) (he : ∀ k, k ≠ x.1 → x.2.ownBlock ≠ some k → k < w.heap.size → w'.heap[k]? = w.heap[k]?) (hblk : Blk w' x.1 (actC a' v')) (hrow : w'.ownsRow 0 55 6 v' a'.regs.length (regsL a'.regs)) (hm : Moved L.foot x.2 v') :
    StoreAt ⟨L.sb,L.av,L.pv,L.ab.set i (x.1,v')⟩ {S with acts:=S.acts.set i a'} w':=by
 have hne:=h.ne_act hx;refine⟨h.blk.same hz (he _ (fun e=>hne.1 e.symm) hne.2.2.2.2.1 h.blk.lt),?_,row_heap h.parts (fun k hk=>he k (fun e=>hne.2.2.1 (by rw[hk,e])) (fun e=>(hne.2.2.2.2.2 k e).2 hk) (h.parts.lt k hk).2),fun j y b hy hb=> ?_,once_rv h.once hx hm⟩
 · show w'.ownsRow 0 _ 1 L.av (S.acts.set i a').length (ptrs (L.ab.set i (x.1,v')))
   rw[ptrs_set _ _ _ _ hx,List.length_set];exact row_heap h.acts (fun k hk=>he k (fun e=>hne.2.1 (by rw[hk,e])) (fun e=>(hne.2.2.2.2.2 k e).1 hk) (h.acts.lt k hk).2)
 · have hy':(L.ab.set i (x.1,v'))[j]? =some y:=hy;have hb':(S.acts.set i a')[j]? =some b:=hb;by_cases hij:i=j
   · subst hij;rw[List.getElem?_set_self (List.getElem?_eq_some_iff.1 hx).1] at hy';rw[List.getElem?_set_self (List.getElem?_eq_some_iff.1 ha).1] at hb';injection hy' with hy';injection hb' with hb'
     subst hy' hb';exact⟨hblk,hrow⟩
   · rw[List.getElem?_set_ne hij] at hy' hb';obtain⟨b1,b2⟩:=h.act j y b hy' hb';have h2:=h.ne_two hx hy' hij;have hno:∀k,(k=y.1∨y.2.ownBlock=some k)→k≠x.1∧x.2.ownBlock≠some k:=fun k hk=>⟨fun e=>h2 k (.inl e) hk,fun e=>h2 k (.inr e) hk⟩
     exact⟨b1.same hz (he _ (hno _ (.inl rfl)).1 (hno _ (.inl rfl)).2 b1.lt),row_heap b2 (fun k hk=>he k (hno _ (.inr hk)).1 (hno _ (.inr hk)).2 (b2.lt k hk).2)⟩
theorem StoreAt.acts_to {L : SLoc} {S : Sto} {w w' : World} (h : StoreAt L S w) (av' : Value) (m : Nat) (a : SAct) (nx : Int) (hr : a.regs = []) (hz : w.heap.size ≤ w'.heap.size) (hm : w.heap.size ≤ m) (he : ∀ k, L.av.ownBlock ≠ some k → k ≠ L.sb → k < w.heap.size → w'.heap[k]? = w.heap[k]?) (hblk : Blk w' L.sb #[S.node, nx, av', L.pv]) (hact : Blk w' m (actC a (.slice none 0 0))) (hrow : w'.ownsRow 0 159 1 av' (S.acts.length + 1) (ptrs L.ab ++ [.pointer (some ⟨m, 0, none⟩)])) (ha : av'.ownBlock = L.av.ownBlock ∨ ∃ k, av'.ownBlock = some k ∧ w.heap.size ≤ k ∧ k ≠ m) :
    StoreAt ⟨L.sb,av',L.pv,L.ab ++ [(m,.slice none 0 0)]⟩ {S with next:=nx,acts:=S.acts ++ [a]} w':=by
 have hn:=h.ne_top;have hmf:m∉L.foot:=fun hk=>by have:=h.lt m hk;omega
 refine⟨hblk,?_,row_heap h.parts (fun k hk=>he k (fun e=>hn.2.2 k e hk) (fun e=>hn.2.1 (by rw[hk,e])) (h.parts.lt k hk).2),fun j y b hy hb=> ?_,once_add h.once hmf (ha.imp id (fun⟨k,h1,h2,h3⟩=>⟨k,h1,fun hk=>by have:=h.lt k hk;omega,h3⟩))⟩
 · show w'.ownsRow 0 _ 1 av' (S.acts ++ [a]).length (ptrs (L.ab ++ [(m,.slice none 0 0)]))
   rw[List.length_append];unfold ptrs at hrow⊢;rw[List.map_append];exact hrow
 · have hl:=h.len;have hy':(L.ab ++ [(m,Value.slice none 0 0)])[j]? =some y:=hy;have hb':(S.acts ++ [a])[j]? =some b:=hb;by_cases hj:j<S.acts.length
   · rw[List.getElem?_append_left (by omega)] at hy';rw[List.getElem?_append_left hj] at hb';obtain⟨b1,b2⟩:=h.act j y b hy' hb';have hne:=h.ne_act hy';exact⟨b1.same hz (he _ hne.2.1 hne.1 b1.lt),row_heap b2 (fun k hk=>he k (hne.2.2.2.2.2 k hk).1 (fun e=>hne.2.2.2.2.1 (by rw[hk,e])) (b2.lt k hk).2)⟩
   · rw[List.getElem?_append_right (by omega)] at hy' hb';have hj':j=S.acts.length:=by
      have:=(List.getElem?_eq_some_iff.1 hb').1;simp at this;omega
     subst hj';rw[hl] at hy';simp at hy' hb';subst hy' hb';exact⟨hact,by rw[hr];exact World.ownsRow_nil _ _ _ _⟩
theorem StoreAt.acts_del {L : SLoc} {S : Sto} {w w' : World} {i : Nat} (h : StoreAt L S w) (av' : Value) (hi : i < S.acts.length) (hz : w.heap.size ≤ w'.heap.size) (he : ∀ k, L.av.ownBlock ≠ some k → k ≠ L.sb → k < w.heap.size → w'.heap[k]? = w.heap[k]?) (hblk : Blk w' L.sb #[S.node, S.next, av', L.pv]) (hrow : w'.ownsRow 0 159 1 av' (S.acts.length - 1) (ptrs (L.ab.eraseIdx i))) (ha : av'.ownBlock = L.av.ownBlock) :
    StoreAt ⟨L.sb,av',L.pv,L.ab.eraseIdx i⟩ {S with acts:=S.acts.eraseIdx i} w':=by
 have hn:=h.ne_top;refine⟨hblk,?_,row_heap h.parts (fun k hk=>he k (fun e=>hn.2.2 k e hk) (fun e=>hn.2.1 (by rw[hk,e])) (h.parts.lt k hk).2),fun j y b hy hb=> ?_,once_del i h.once ha⟩
 · show w'.ownsRow 0 _ 1 av' (S.acts.eraseIdx i).length _
   rw[List.length_eraseIdx_of_lt hi];exact hrow
 · have hy':(L.ab.eraseIdx i)[j]? =some y:=hy;have hb':(S.acts.eraseIdx i)[j]? =some b:=hb;have key:∀q,L.ab[q]? =some y→S.acts[q]? =some b→Blk w' y.1 (actC b y.2)∧w'.ownsRow 0 55 6 y.2 b.regs.length (regsL b.regs):=fun q hyq hbq=>by
    obtain⟨b1,b2⟩:=h.act q y b hyq hbq;have hne:=h.ne_act hyq;exact⟨b1.same hz (he _ hne.2.1 hne.1 b1.lt),row_heap b2 (fun k hk=>he k (hne.2.2.2.2.2 k hk).1 (fun e=>hne.2.2.2.2.1 (by rw[hk,e])) (b2.lt k hk).2)⟩
   rw[List.getElem?_eraseIdx] at hy' hb';by_cases hj:j<i
   · rw[if_pos hj] at hy' hb';exact key j hy' hb'
   · rw[if_neg hj] at hy' hb';exact key (j+1) hy' hb'
theorem step_app {w : World} {ops : Array Oper} {o : Oper} {a : Act} {K : Act → World → Prop} {Q : Exit → Act → World → Prop} {E : Prop} (hgd : o.guard = none) (s x : Operand) (t : TypeId)
    (ho:o.op=.call {callee:=.builtin .append,args:= #[s,x],argTypes:= #[t,t]})
    (base:Nat) (e:TypeId) (i:TypeInfo) (z:Value) (size bytes:Nat) (ht:Tryz.prog.underlying t=some (.slice e)) (hi:Tryz.prog.info? e=some i) (hz:i.zero=some z)
    (hsize:i.size=size) (hby:i.bytes=bytes) (hzs:z.cells.size=size) (hsz:0<size)
    (v:Value) (n:Nat) (xs:List Value) (hs:a.eval s=v) (hown:w.ownsRow base e size v n xs)
    (ad:Addr) (m c:Nat) (news:List Value) (hx:a.eval x=.slice (some ad) m c) (hl:news.length=m*size) (hnews:∀j u,news[j]? =some u→w.cell? (ad.add j)=some u) (h1:∀u∈news,u.oneCell'=true)
    (h63:n+m≤maxLen) (hbytes:(n+m)*bytes≤140737488355328) (hbase:base≤w.heap.size)
    (h:∀v' w',w'.ownsRow base e size v' (n+m) (xs ++news)→w.grownBy w' v.ownBlock→(v'.ownBlock=v.ownBlock∨v'.ownBlock=some w.heap.size)→K (a.put o.dst v') w'):
    if Region.wanted o (yielded ops a.tmps)=true then Oper.wp Tryz.prog o a w K Q else E:=by
 have hw:Region.wanted o (yielded ops a.tmps)=true:=by simp[Region.wanted,hgd]
 rw[if_pos hw];obtain⟨v',w',hr,h2,h3,h4,h5⟩:=run_append_own_at (P:=Tryz.prog) w base t o.type e i z size bytes ht hi hz hsize hby hzs hsz v n xs hown ad m c news hl hnews h1 h63 hbytes hbase;unfold Oper.wp;simp only[execOp,ho,resolve,invoke,builtin,Sem.run_bind,Sem.run_pure,Result.andThen_ok,List.map_toArray,List.map_cons,List.map_nil,hs,hx,hr];exact h v' w' h2 h3 h5
theorem infoPart:(Tryz.prog.info? 61).map (fun i=>(i.zero,i.size,i.bytes))=some (some (.agg #[.int .i64 0,.int .i64 0,.int .i64 0,.int .i64 0,.int .i64 0,.int .i64 0,.int .i64 0]),7,56):=by kernel_rfl
theorem infoReg:(Tryz.prog.info? 55).map (fun i=>(i.zero,i.size,i.bytes))=some (some (.agg #[.int .i64 0,.int .i64 0,.int .i64 0,.int .i64 0,.int .i64 0,.int .i64 0]),6,48):=by kernel_rfl
theorem infoActP:(Tryz.prog.info? 159).map (fun i=>(i.zero,i.size,i.bytes))=some (some (.pointer none),1,8):=by kernel_rfl
theorem lit_cells {W:World} {b:Nat} {l:List Value} (h:Blk W b l.toArray):∀j u,l[j]? =some u→W.cell? ((⟨b,0,none⟩:Addr).add j)=some u:=fun j u hu=>by
 rw[Addr.add_lit,Nat.zero_add,h.cell];simpa using hu
theorem Blk.set' {w:World} {b:Nat} {C:Array Value} (h:Blk w b C) (i:Nat) (hi:i<C.size) (v:Value):Blk (w.setCell ⟨b,i,none⟩ v) b (C.set i v hi):=by
 refine⟨by simpa using h.lt,fun j=> ?_,fun j=>by rw[World.frozen?_setCell];exact h.free j⟩;by_cases hj:j=i
 · subst hj;have h1:w.cell? ⟨b,j,none⟩=some C[j]:=by rw[h.cell];exact Array.getElem?_eq_getElem hi
   rw[World.cell?_setCell_same (h:=h1),Array.getElem?_set_self]
 · rw[World.cell?_setCell_other (h:=by intro e;injection e with _ e2;exact hj e2.symm),h.cell,Array.getElem?_set_ne];exact fun e=>hj e.symm
theorem joined_end {L : SLoc} {S : Sto} {w W w2 : World} {v2 : Value} {p : SPart} (h : StoreAt L S W) (hb : Below w.heap.size w W) (hg : W.grownBy w2 L.pv.ownBlock) (ho : w2.ownsRow 0 61 7 v2 (S.parts.length + 1) (partsL S.parts ++ partL p)) (hat : v2.ownBlock = L.pv.ownBlock ∨ v2.ownBlock = some W.heap.size) :
    SGoes L {S with parts:=S.parts ++ [p]} w (w2.setCell ⟨L.sb,3,none⟩ v2):=by
 have hn:=h.ne_top;have hm:Moved L.foot L.pv v2:=hat.imp id (fun e=>⟨_,e,fun hk=>by have:=h.lt _ hk;omega⟩);have hv2:v2.ownBlock≠some L.sb:=by
  rcases hat with e | e
  · rw[e];exact hn.2.1
  · rw[e];intro e';injection e' with e';have:=h.blk.lt;omega
 have hblk:Blk w2 L.sb #[S.node,S.next,L.av,L.pv]:=h.blk.same hg.size (hg.block _ h.blk.lt (fun e=>hn.2.1 e.symm));refine⟨⟨L.sb,L.av,v2,L.ab⟩,rfl,h.parts_to v2 _ (by simpa using hg.size) (fun k hk hs hlt=> ?_) ?_ ?_ hm,?_⟩
 · rw[Below.heap_setCell _ _ _ _ hs];exact hg.block k hlt (fun e=>hk e.symm)
 · exact hblk.set' 3 (by simp) v2
 · rw[List.length_append];refine row_heap ?_ (fun k hk=>Below.heap_setCell _ _ _ _ (fun e=>hv2 (by rw[hk,e])));unfold partsL at ho⊢;rw[List.flatMap_append];simpa using ho
 · refine((Goes.of_below hb).trans ((Goes.grown hg (fun k hk=>SLoc.mem.2 (.inr (.inr (.inl hk))))).trans (Goes.setCell L.sb 3 v2 (SLoc.mem.2 (.inl rfl))))).change (fun k hk=> ?_);rcases mem_pv (n:=W.heap.size) (hat.imp id (fun e=>⟨_,e,Nat.le_refl _⟩)) k hk with h1 | h1
   · exact .inl h1
   · exact .inr (Nat.le_trans hb.size h1)
theorem joined_yes (L : SLoc) (S : Sto) (f : SFact) (w : World) (h : StoreAt L S w) (hG : StoGood S) (hpr : 1 ≤ f.pr ∧ f.pr ≤ 2) (hi : f.pt = (S.parts.length : Int)) :
    Calls Tryz.prog 85 #[.pointer (some ⟨L.sb,0,none⟩),factV f] w fun e w'=>e=.returned (.bool true)∧SGoes L {S with parts:=S.parts ++ [⟨f.an,f.aq,-1,⟨f.pr,2,1,0⟩⟩]} w w':=by
 obtain⟨a,cap,hv,hn,hr⟩:=part_row h.parts;have hl:=hG.parts;have HN:=qq (fun W=>seatNew_of f.pr 2 W hpr (.inr rfl));have H:=qq h;have hsb:=h.blk.lt;obtain⟨n,hnn⟩:∃n,n=S.parts.length:=⟨_,rfl⟩
 have HE:=qq (fun W w2 v2 (p:SPart) (h1:StoreAt L S W) (h2:Below w.heap.size w W) (h3:W.grownBy w2 L.pv.ownBlock) (h4:w2.ownsRow 0 61 7 v2 (n+1) (partsL S.parts ++partL p)) h5=>joined_end h1 h2 h3 (by rw[←hnn];exact h4) h5);have HO:=qq (fun W (hW:StoreAt L S W)=>(show W.ownsRow 0 61 7 L.pv n (partsL S.parts) by rw[hnn];exact hW.parts));rw[←hnn] at hv hi hl
 have HQ:=qq (fun W (hW:StoreAt L S W)=>(show W.cell? ⟨L.sb,3,none⟩=some (.slice a n cap) by rw[←hv];exact hW.blk.cell 3));have HV:=qq hv;obtain⟨i0,ei,ez,es,eb⟩:=info_parts infoPart;obtain⟨k,an,aq,rg,nd,pt,pr,oc,dp,pa,st,hw,de,ex⟩:=f;dsimp only at hi HN;subst hi;dsimp only[factV,factC] at*;clear hn hr hnn h hG hv hpr;go_enter Tryz.func85,Tryz.ntmps85;go_wp2_with fail;refine(HN.out _).mono ?_
 rintro e w1 ⟨rfl,hb1⟩;have HK1:=qq ((Blk.fresh w #[k,an,aq,rg,nd,(n:Int),pr,oc,dp,pa,st,hw,de,.float .f64 ex] 39 _ rfl).below hb1);have B1:Below w.heap.size w w1:=below_then (by go_grown) hb1;have H1:=qq (H.out.below B1);have hz1:=hb1.size;simp only[World.size_alloc] at hz1;have hs1:L.sb<w1.heap.size:=by omega
 have hs2:w.heap.size<w1.heap.size:=by omega
 obtain⟨q,qf⟩:=HK1.out.out;have c3:=HQ.out _ H1.out;have hb:=H1.out.blk.free;go_wp2_with fail;have hne:((n:Int) !=(n:Int))=false:=by simp
 go_region;go_wp2_with fail;clear hne
 go_region_law (refine step_app rfl (.tmp 29) (.tmp 34) 58 rfl 0 61 i0 (.agg #[.int .i64 0,.int .i64 0,.int .i64 0,.int .i64 0,.int .i64 0,.int .i64 0,.int .i64 0]) 7 56 Tryz.underlying58 ei ez es eb rfl (by decide) (.slice a n cap) n (partsL S.parts) (by rfl) (by rw[←HV.out];exact HO.out _ (H1.out.below (by go_grown))) ⟨w1.heap.size+1,0,none⟩ 1 1 (partL ⟨an,aq,-1,⟨pr,2,1,0⟩⟩) (by rfl) rfl (lit_cells (Blk.fresh _ _ _ _ (by simp)).drew.drew) (partL_one _) (by unfold maxLen;omega) (by omega) (Nat.zero_le _) ?_;intro v2 w2 hown2 hgrow2 hat2;rw[←HV.out] at hgrow2 hat2;have s2:w2.cell? ⟨L.sb,3,none⟩=some (.slice a n cap):=hgrow2.cell (HQ.out _ (H1.out.below (by go_grown))) (fun e=>H1.out.ne_top.2.1 e.symm);have f2:w2.frozen? ⟨L.sb,3,none⟩=false:=(World.frozen?_of_block (a:=⟨L.sb,3,none⟩) (hgrow2.block _ (World.block_lt_of_cell? _ _ (HQ.out _ (H1.out.below (by go_grown)))) (fun e=>H1.out.ne_top.2.1 e.symm))).trans ((H1.out.below (by go_grown)).blk.free 3);have HR:=qq (HE.out _ w2 v2 ⟨an,aq,-1,⟨pr,2,1,0⟩⟩ (H1.out.below (by go_grown)) (below_then B1 (by go_grown)) hgrow2 hown2 hat2);obtain⟨a2,c2,rfl⟩:=row_slice hown2;clear hown2 hgrow2 hat2)
 all_goals go_wp2_with fail
 all_goals go_ret
 all_goals exact⟨rfl,HR.out⟩
theorem joined_no (L : SLoc) (S : Sto) (f : SFact) (w : World) (h : StoreAt L S w) (hG : StoGood S) (hpr : 1 ≤ f.pr ∧ f.pr ≤ 2) (hi : f.pt ≠ (S.parts.length : Int)) :
    Calls Tryz.prog 85 #[.pointer (some ⟨L.sb,0,none⟩),factV f] w fun e w'=>e=.returned (.bool false)∧SGoes L S w w':=by
 obtain⟨a,cap,hv,hn,hr⟩:=part_row h.parts;have hl:=hG.parts;have HN:=qq (fun W=>seatNew_of f.pr 2 W hpr (.inr rfl));have H:=qq h;have hsb:=h.blk.lt;obtain⟨n,hnn⟩:∃n,n=S.parts.length:=⟨_,rfl⟩
 have HO:=qq (fun W (hW:StoreAt L S W)=>(show W.ownsRow 0 61 7 L.pv n (partsL S.parts) by rw[hnn];exact hW.parts));rw[←hnn] at hv hi hl;have HQ:=qq (fun W (hW:StoreAt L S W)=>(show W.cell? ⟨L.sb,3,none⟩=some (.slice a n cap) by rw[←hv];exact hW.blk.cell 3));have HV:=qq hv;obtain⟨i0,ei,ez,es,eb⟩:=info_parts infoPart;obtain⟨k,an,aq,rg,nd,pt,pr,oc,dp,pa,st,hw,de,ex⟩:=f;dsimp only at hi HN
 dsimp only[factV,factC] at*;have HI:=qq hi;clear hn hr hnn h hG hv hpr hi;go_enter Tryz.func85,Tryz.ntmps85;go_wp2_with fail;refine(HN.out _).mono ?_;rintro e w1 ⟨rfl,hb1⟩;have HK1:=qq ((Blk.fresh w #[k,an,aq,rg,nd,pt,pr,oc,dp,pa,st,hw,de,.float .f64 ex] 39 _ rfl).below hb1);have B1:Below w.heap.size w w1:=below_then (by go_grown) hb1;have H1:=qq (H.out.below B1);have hz1:=hb1.size
 simp only[World.size_alloc] at hz1;have hs1:L.sb<w1.heap.size:=by omega
 have hs2:w.heap.size<w1.heap.size:=by omega
 obtain⟨q,qf⟩:=HK1.out.out;have c3:=HQ.out _ H1.out;have hb:=H1.out.blk.free;go_wp2_with fail;have hne:(pt !=(n:Int))=true:=by simpa using HI.out
 go_region
 all_goals go_wp2_with fail
 all_goals go_ret
 all_goals exact⟨rfl,SGoes.same H.out (below_then B1 (by go_grown))⟩
end Go.Proofs.YtlkajejbfojkeaaGreatDoor
