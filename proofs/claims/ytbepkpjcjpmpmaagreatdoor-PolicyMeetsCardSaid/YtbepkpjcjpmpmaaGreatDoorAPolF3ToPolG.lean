/- PolF3, PolG0, PolG -/
import Derived.Test.YtbepkpjcjpmpmaaGreatDoorAPolQToPolF2
set_option linter.unusedSimpArgs false
set_option linter.unusedVariables false
set_option maxRecDepth 100000
set_option maxHeartbeats 16000000
namespace Go.Proofs.YtbepkpjcjpmpmaaGreatDoor
open Go.RowKit Go.Shelf
theorem allEq_dec:∀a b:PAlt,Lib.allEq (fun x y=>decide (x=y)) a b=decide (a=b)
 | [],[]=>by simp[Lib.allEq]
 | [],_::_=>by simp[Lib.allEq]
 | _::_,[]=>by simp[Lib.allEq]
 | x::s,y::t=>by
  unfold Lib.allEq;rw[allEq_dec s t];rw[Bool.eq_iff_iff];simp
theorem equalA_of (Ba Bb : Nat) (va vb : Value) (sa sb : PAlt) (w : World) (ha : AltV Ba w va sa) (hb : AltV Bb w vb sb) (hla : sa.length ≤ 1000) (hlb : sb.length ≤ 1000) :
    Calls Tryz.prog 83 #[va,vb] w (fun e w'=>e=.returned (.bool (decide (sa=sb)))∧∃q,w'=w.drewN q):=by
 by_cases hn:sa.length=sb.length
 · rcases Nat.eq_zero_or_pos sa.length with h0 | h0
   · have e1:=List.length_eq_zero_iff.1 h0;have e2:=List.length_eq_zero_iff.1 (hn.symm.trans h0);subst e1 e2;obtain⟨aa,ca,rfl⟩:=row_slice ha;obtain⟨ab,cb,rfl⟩:=row_slice hb;clear ha hb;rw[show decide (([]:PAlt)=[])=true from rfl];simp only[List.length_nil];go_enter Tryz.func83,Tryz.ntmps83;go_wp2_with fail;go_loopw [13] (fun cc wr=>cc=.int .i64 0∧wr=w) (fun _ _=>0)
     case atStart=>exact⟨by first | rfl | trivial,by first | rfl | trivial⟩
     case round=>
      obtain⟨rfl,rfl⟩:=hrel;go_wp2_with fail;go_ret;exact⟨rfl,0,rfl⟩
   · have hva:va≠.slice none 0 0:=by
      rintro rfl;have:=alt_nil ha;subst this;simp at h0
     have hvb:vb≠.slice none 0 0:=by
      rintro rfl;have:=alt_nil hb;subst this;rw[hn] at h0;simp at h0
     obtain⟨g,cap,rfl,hg,hgl,hnc,hcm,hlen,hH⟩:=Lib.holds_of_ownsRow (enc:=encStr) ha hva;obtain⟨g2,cap2,rfl,hg2,hgl2,hnc2,hcm2,hlen2,hH2⟩:=Lib.holds_of_ownsRow (enc:=encStr) hb hvb;have c1:∀j,j<sa.length→w.cell? ⟨g,0+j,none⟩=some (encStr sa[j]!):=fun j hj=>by
      have:=(hH j (by simpa using hj)).1;rw[this,getElem!_pos sa.toArray j (by simpa using hj),getElem!_pos sa j hj];simp
     have c2:∀j,j<sb.length→w.cell? ⟨g2,0+j,none⟩=some (encStr sb[j]!):=fun j hj=>by
      have:=(hH2 j (by simpa using hj)).1;rw[this,getElem!_pos sb.toArray j (by simpa using hj),getElem!_pos sb j hj];simp
     have:=AnyE.slices_Equal shEqualA encStr (fun x y=>decide (x=y)) (neStrD _) g 0 sa.length cap g2 0 sb.length cap2 sa sb w (Nat.le_refl _) (Nat.le_refl _) (by omega) (by omega) c1 c2;rw[List.take_length,List.take_length,allEq_dec] at this;exact this
 · have hne:decide (sa=sb)=false:=by
    rw[decide_eq_false_iff_not];rintro rfl;exact hn rfl
   rw[hne];obtain⟨aa,ca,rfl⟩:=row_slice ha;obtain⟨ab,cb,rfl⟩:=row_slice hb;clear ha hb hne;generalize sa.length=na at*;generalize sb.length=nb at*;have hn2:((na:Int)==(nb:Int))=false:=by rw[beq_eq_false_iff_ne];omega
   have hn3:((na:Int) !=(nb:Int))=true:=by rw[bne,hn2];rfl
   go_enter Tryz.func83,Tryz.ntmps83;go_wp2_with fail;go_ret;exact⟨rfl,0,rfl⟩
theorem less1_of (Ba Bb : Nat) (va vb : Value) (sa sb : PAlt) (w : World) (ha : AltV Ba w va sa) (hb : AltV Bb w vb sb) (hla : sa.length ≤ 1000) (hlb : sb.length ≤ 1000) :
    Calls Tryz.prog 79 #[va,vb] w (fun e w'=>e=.returned (.int .i64 (cmpT ltA sa sb))∧w=w'):=by
 have HC:=qq (compareA_of Ba Bb va vb sa sb w ha hb hla hlb);obtain⟨aa,ca,rfl⟩:=row_slice ha;obtain⟨ab,cb,rfl⟩:=row_slice hb;generalize cmpT ltA sa sb=r at*;clear ha hb;generalize sa.length=na at*;generalize sb.length=nb at*;go_enter Tryz.func79,Tryz.ntmps79;go_wp2_with fail;refine HC.out.mono ?_;rintro e w1 ⟨rfl,rfl⟩;go_wp2_with fail;go_ret;exact⟨rfl,rfl⟩
theorem same2_of (Ba Bb : Nat) (va vb : Value) (sa sb : PAlt) (w : World) (ha : AltV Ba w va sa) (hb : AltV Bb w vb sb) (hla : sa.length ≤ 1000) (hlb : sb.length ≤ 1000) :
    Calls Tryz.prog 82 #[va,vb] w (fun e w'=>e=.returned (.bool (decide (sa=sb)))∧∃q,w'=w.drewN q):=by
 have HC:=qq (equalA_of Ba Bb va vb sa sb w ha hb hla hlb);obtain⟨aa,ca,rfl⟩:=row_slice ha;obtain⟨ab,cb,rfl⟩:=row_slice hb;generalize decide (sa=sb)=r at*;clear ha hb;generalize sa.length=na at*;generalize sb.length=nb at*;go_enter Tryz.func82,Tryz.ntmps82;go_wp2_with fail;refine HC.out.mono ?_;rintro e w1 ⟨rfl,q,rfl⟩;go_wp2_with fail;go_ret;exact⟨rfl,q,rfl⟩
theorem step_callv {P : Program} {ops : Array Oper} {o : Oper} {a : Act} {w : World} {K : Act → World → Prop} {Q : Exit → Act → World → Prop} {E : Prop}
    (x:Operand) (f:Nat) (argsO:Array Operand) (ts:Array TypeId) (args:List Value)
    (hop:o.op=Op.call {callee:=Callee.value x,args:=argsO,argTypes:=ts}) (hf:a.eval x=.func (.func f) #[] #[]) (he:Enters P f)
    (hw:Region.wanted o (yielded ops a.tmps)=true) (hargs:argsO.toList.map a.eval=args)
    (h:Calls P f args.toArray w (fun e w'=>∃v,e=.returned v∧K (a.put o.dst v) w')):
    if Region.wanted o (yielded ops a.tmps)=true then Oper.wp P o a w K Q else E:=by
 rw[if_pos hw];have hx:argsO.map a.eval=args.toArray:=Array.toList_inj.1 (by rw[Array.toList_map,hargs]);unfold Oper.wp;have hrun:(execOp a.eval o).run P w=.ok (.enter f args.toArray) w:=by
  have h1:=he args.toArray w;simp only[execOp,hop,resolve,hf,hx];simp[Deferred.ofValue,invoke];exact h1
 rw[hrun,Oper.upon_enter];refine h.mono ?_;rintro e w' ⟨v,rfl,hk⟩;exact hk
theorem wpOp_callv {P : Program} {ops : Array Oper} {Q : Exit → Act → World → Prop} {a : Act} {w : World} {oi : Oper} {d : Option Tmp} {N : Act → World → Prop}
    (i:Nat) (x:Operand) (f:Nat) (argsO:Array Operand) (ts:Array TypeId) (args:List Value) (hi:ops[i]? =some oi) (hd:oi.dst=d)
    (hop:oi.op=Op.call {callee:=Callee.value x,args:=argsO,argTypes:=ts}) (hf:a.eval x=.func (.func f) #[] #[]) (he:Enters P f)
    (hw:Region.wanted oi (yielded ops a.tmps)=true) (hargs:argsO.toList.map a.eval=args)
    (h:Calls P f args.toArray w (fun e w'=>∃v,e=.returned v∧N (a.put d v) w')):wpOp P ops Q i N a w:=by
 subst hd;refine wpOp_step hi (fun K' hK=> ?_);refine step_callv x f argsO ts args hop hf he hw hargs (h.mono ?_);rintro e w' ⟨v,rfl,h3⟩;exact⟨v,rfl,hK _ _ h3⟩
open Go.Lib (keeps compactUpTo CompInv keeps_lt_one keeps_neg keeps_pos compactUpTo_all compactUpTo_succ)
theorem gr_trans {w w1 w2:World} {o:Option Nat} (hg:w.grownBy w1 o) (h4:w1.grownBy w2 o):w.grownBy w2 o:=⟨h4.os.trans hg.os,h4.tape.trans hg.tape,h4.output.trans hg.output,Nat.le_trans hg.size h4.size,fun k hk hne=>(h4.block k (Nat.lt_of_lt_of_le hk hg.size) hne).trans (hg.block k hk hne)⟩
theorem gr_drewN {w w':World} {o:Option Nat} (h:w.grownBy w' o) (q:Nat):w.grownBy (w'.drewN q) o:=⟨h.os,h.tape,h.output,h.size,h.block⟩
theorem row_drN {w:World} {B:Nat} {e:TypeId} {size:Nat} {v:Value} {n:Nat} {xs:List Value} (h:w.ownsRow B e size v n xs) (q:Nat):(w.drewN q).ownsRow B e size v n xs:=h
theorem Held_drewN {w w':World} {o:Option Nat} {B:Nat} {e:TypeId} {size:Nat} {v:Value} {n:Nat} {xs:List Value} (h:w.grownBy w' o∧w'.ownsRow B e size v n xs) (q:Nat):w.grownBy (w'.drewN q) o∧(w'.drewN q).ownsRow B e size v n xs:=⟨gr_drewN h.1 q,row_drN h.2 q⟩
theorem gr_set {w w':World} {g:Nat} (h:w.grownBy w' (some g)) (i:Nat) (v:Value):w.grownBy (w'.setCell ⟨g,i,none⟩ v) (some g):=by
 refine⟨h.os,h.tape,h.output,by simpa using h.size,fun k hk hne=> ?_⟩;rw[Below.heap_setCell _ _ _ _ (by rintro rfl;exact hne rfl)];exact h.block k hk hne
theorem alt_gr {B B2:Nat} {w w':World} {x v:Value} {s:PAlt} {n g cap:Nat} {xs:List Value} (h:AltV B w x s) (hg:w.grownBy w' (some g)) (hr:w.ownsRow B2 71 1 v n xs) (hv:v=.slice (some ⟨g,0,none⟩) n cap):AltV B w' x s:=by
 refine row_heap h (fun k hk=>hg.block k (h.lt k hk).2 ?_);rintro e;injection e with e
 subst e hv;rcases h.2 with⟨e0,_⟩ | ⟨g1,c1,cur1,rfl,_,hg1,_⟩
 · subst e0;cases hk
 · injection hk with hk
   subst hk;rcases hr.2 with⟨e0,_⟩ | ⟨g2,c2,cur2,e2,_,hg2,_⟩
   · cases e0
   · injection e2 with e2
     injection e2 with e2
     injection e2 with e2
     dsimp only at e2 hg1;subst e2;rw[hg1] at hg2;injection hg2 with hg2
     injection hg2 with _ ht
     revert ht;decide
def Alts (BA:Nat) (w:World) (vs:Array Value) (d:Array PAlt):Prop:=vs.size=d.size∧∀i,i<d.size→AltV BA w vs[i]! d[i]!
theorem row_cell {w:World} {B n g cap:Nat} {e:TypeId} {vs:Array Value} (h:w.ownsRow B e 1 (.slice (some ⟨g,0,none⟩) n cap) n vs.toList) (i:Nat) (hi:i<vs.size):w.cell? ⟨g,i,none⟩=some vs[i]! ∧w.frozen? ⟨g,i,none⟩=false:=by
 rcases h.2 with⟨e0,_⟩ | ⟨g2,c2,cur2,e2,_,hg2,hc2,hm2,hs2,ht2⟩
 · cases e0
 · injection e2 with e2
   injection e2 with e2
   injection e2 with e2
   subst e2;refine⟨?_,by simp[World.frozen?,hg2]⟩;have:=h.cells (g:=g) rfl i vs[i]! (by rw[Array.getElem?_toList,getElem!_pos vs i hi,Array.getElem?_eq_getElem hi]);rwa[Addr.add_lit,Nat.zero_add] at this
theorem row_put {w:World} {B n g cap:Nat} {e:TypeId} {vs:Array Value} (h:w.ownsRow B e 1 (.slice (some ⟨g,0,none⟩) n cap) n vs.toList) (i:Nat) (x:Value) (hi:i<n):(w.setCell ⟨g,i,none⟩ x).ownsRow B e 1 (.slice (some ⟨g,0,none⟩) n cap) n (vs.setIfInBounds i x).toList:=by
 rw[Array.toList_setIfInBounds];exact row_set h i x (by omega)
theorem row_puts {B n g cap : Nat} {e : TypeId} (x : Value) : ∀ (m i : Nat) (w : World) (vs : Array Value), i + m ≤ n → w.ownsRow B e 1 (.slice (some ⟨g, 0, none⟩) n cap) n vs.toList →
    ∃vs':Array Value,vs'.size=vs.size∧(∀j,j<i→vs'[j]! =vs[j]!)∧(w.setCells g i (List.replicate m x)).ownsRow B e 1 (.slice (some ⟨g,0,none⟩) n cap) n vs'.toList∧w.grownBy (w.setCells g i (List.replicate m x)) (some g)
 | 0,i,w,vs,_,h=>⟨vs,rfl,fun _ _=>rfl,h,gr_refl _ _⟩
 | m+1,i,w,vs,hm,h=>by
  obtain⟨vs',h1,h2,h3,h4⟩:=row_puts (e:=e) x m (i+1) (w.setCell ⟨g,i,none⟩ x) (vs.setIfInBounds i x) (by omega) (row_put h i x (by omega));refine⟨vs',by rw[h1];simp,fun j hj=>by rw[h2 j (by omega),Go.Sort.getElem!_set_other vs i j _ (by omega)],h3,?_⟩;have hg:=gr_set (gr_refl w (some g)) i x
  exact⟨h4.os.trans hg.os,h4.tape.trans hg.tape,h4.output.trans hg.output,Nat.le_trans hg.size h4.size,fun k hk hne=>(h4.block k (Nat.lt_of_lt_of_le hk hg.size) hne).trans (hg.block k hk hne)⟩
theorem row_cut {w:World} {B n g cap k:Nat} {e:TypeId} {vs:Array Value} (h:w.ownsRow B e 1 (.slice (some ⟨g,0,none⟩) n cap) n vs.toList) (hk:k≤n):w.ownsRow B e 1 (.slice (some ⟨g,0,none⟩) k cap) k (vs.toList.take k):=by
 have hl:=h.1;refine⟨by rw[List.length_take,hl];omega,?_⟩;rcases h.2 with⟨e0,_⟩ | ⟨g2,c2,cur2,e2,hb2,hg2,hc2,hm2,hs2,ht2⟩
 · cases e0
 · injection e2 with e2 _ e3
   injection e2 with e2
   injection e2 with e2
   subst e2 e3;refine .inr ⟨g,cap,cur2,rfl,hb2,hg2,by omega,hm2,hs2,?_⟩;rw[←ht2,List.take_take];congr 1;omega
theorem compactF_of (B BA g cap n : Nat) (vs : Array Value) (d : Array PAlt) (w : World) (h : w.ownsRow B 71 1 (.slice (some ⟨g, 0, none⟩) n cap) n vs.toList) (hA : Alts BA w vs d) (hn : n ≤ 100000) (hl : ∀ i, i < d.size → d[i]!.length ≤ 1000) :
    Calls Tryz.prog 81 #[.slice (some ⟨g,0,none⟩) n cap,.func (.func 82) #[] #[]] w (fun e w'=>e=.returned (.slice (some ⟨g,0,none⟩) (compactUpTo d d.size).length cap)∧(compactUpTo d d.size).length≤n∧w.grownBy w' (some g)∧∃vs':Array Value,vs'.size=n∧w'.ownsRow B 71 1 (.slice (some ⟨g,0,none⟩) n cap) n vs'.toList∧∀j,j<(compactUpTo d d.size).length→∃s,(compactUpTo d d.size)[j]? =some s∧AltV BA w vs'[j]! s):=by
 have hvs:vs.size=n:=by have:=h.1;simpa using this
 have hds:d.size=n:=by rw[←hA.1];exact hvs
 have hcap:n≤cap:=by
  rcases h.2 with⟨e0,_⟩ | ⟨g2,c2,cur2,e2,hb2,hg2,hc2,hm2,hs2,ht2⟩
  · cases e0
  · injection e2 with _ _ e3;subst e3;exact hc2
 have hcm:cap≤9223372036854775807:=by
  rcases h.2 with⟨e0,_⟩ | ⟨g2,c2,cur2,e2,hb2,hg2,hc2,hm2,hs2,ht2⟩
  · cases e0
  · injection e2 with _ _ e3;subst e3;exact hm2
 have H:=qq h;have HA:=qq hA;have HL:=qq hl;have HVS:=qq hvs;have HDS:=qq hds;have HALL:Hid ((∀j,j<n→keeps d j=true)→(compactUpTo d d.size).length=n∧∀j,j<n→∃s,(compactUpTo d d.size)[j]? =some s∧AltV BA w vs[j]! s):=qq (fun hall=>by
   have e:=compactUpTo_all d d.size (fun j hj=>hall j (by omega));rw[e];refine⟨by simp[hds],fun j hj=>⟨d[j]!,by simp[hds,hj],hA.2 j (by omega)⟩⟩)
 obtain⟨r,hr⟩:∃r,r=(compactUpTo d d.size).length:=⟨_,rfl⟩
 have HR:=qq hr;rw[←hr] at HALL⊢;clear h hA hl hvs hds hr;by_cases h2:n<2
 · have h2':(n:Int)<2:=by omega
   have hr:r=n:=(HALL.out (fun j hj=>keeps_lt_one d j (by omega))).1;have hend:=(HALL.out (fun j hj=>keeps_lt_one d j (by omega))).2;have HEND:=qq hend;clear hend;subst hr;go_enter Tryz.func81,Tryz.ntmps81;go_wp2_with fail;go_ret;exact⟨rfl,gr_refl _ _,vs,HVS.out,H.out,HEND.out⟩
 · have h2':¬(n:Int)<2:=by omega
   go_enter Tryz.func81,Tryz.ntmps81;go_wp2_with fail;go_loopw [5] (fun cc wr=>∃i:Nat,i+1≤n∧cc=.int .i64 ((i:Int)+1)∧Hid (w.grownBy wr (some g))∧Hid (wr.ownsRow B 71 1 (.slice (some ⟨g,0,none⟩) n cap) n vs.toList)∧Hid (∀j,j<i+1→keeps d j=true)) (fun cc _=>n - (intOf cc).toNat)
   case atStart=>exact⟨0,by omega,by first | rfl | go_num,qq (gr_refl _ _),H,qq (fun j hj=>keeps_lt_one d j hj)⟩
   case round=>
    obtain⟨i,hi,rfl,HG,HO,HK⟩:=hrel;have hi0:(0:Int)≤(i:Int):=by omega
    have hto:((i:Int)+1).toNat=i+1:=by omega
    by_cases hlt:i+1<n
    · have hi1:(i:Int)+1<(n:Int):=by omega
      have hi2:(i:Int)<(n:Int):=by omega
      have hi3:(0:Int)≤(i:Int)+1:=by omega
      have hwi:IntKind.i64.wrap (i:Int)=(i:Int):=IntWalk.i64_in _ (by omega);have hz:∀W,wr.grownBy W (some g)→True:=fun _ _=>trivial
      have hx0:=HA.out.2 (i+1) (by rw[HDS.out];omega);have hy0:=HA.out.2 i (by rw[HDS.out];omega);have lx:=HL.out (i+1) (by rw[HDS.out];omega);have ly:=HL.out i (by rw[HDS.out];omega);obtain⟨x,hx⟩:∃x,x=d[i+1]! :=⟨_,rfl⟩
      obtain⟨y,hy⟩:∃y,y=d[i]! :=⟨_,rfl⟩
      rw[←hx] at hx0 lx;rw[←hy] at hy0 ly;obtain⟨ax,cx,ex⟩:=row_slice hx0;obtain⟨ay,cy,ey⟩:=row_slice hy0;have HEQ:=qq (fun(W:World) (hW:w.grownBy W (some g))=>same2_of BA BA vs[i+1]! vs[i]! x y W (alt_gr hx0 hW H.out rfl) (alt_gr hy0 hW H.out rfl) lx ly);rw[ex,ey] at HEQ;obtain⟨nx,hnx⟩:∃q,q=x.length:=⟨_,rfl⟩
      obtain⟨ny,hny⟩:∃q,q=y.length:=⟨_,rfl⟩
      rw[←hnx] at HEQ ex;rw[←hny] at HEQ ey;have HCX:Hid (∀W:World,W.ownsRow B 71 1 (.slice (some ⟨g,0,none⟩) n cap) n vs.toList→W.cell? ⟨g,i+1,none⟩=some (.slice ax nx cx)):=qq (fun W hW=>by rw[←ex];exact(row_cell hW (i+1) (by rw[HVS.out];omega)).1)
      have HCY:Hid (∀W:World,W.ownsRow B 71 1 (.slice (some ⟨g,0,none⟩) n cap) n vs.toList→W.cell? ⟨g,i,none⟩=some (.slice ay ny cy)):=qq (fun W hW=>by rw[←ey];exact(row_cell hW i (by rw[HVS.out];omega)).1);have HX:=qq hx;have HY:=qq hy;clear hx0 hy0 lx ly ex ey hnx hny hx hy hz hlt;by_cases hxy:x=y
      · have HXY:=qq hxy;have HDUP:Hid (keeps d (i+1)=false):=qq (keeps_neg (by omega) (by rw[←HX.out,Nat.add_sub_cancel,←HY.out];exact HXY.out));rw[decide_eq_true hxy] at HEQ;clear hxy;go_wp2_with fail;refine reg_start (fun w'=>w.grownBy w' (some g)∧w'.ownsRow B 71 1 (.slice (some ⟨g,0,none⟩) n cap) n vs.toList) (by kernel_rfl) ⟨gr_drew HG.out,row_dr HO.out⟩ ?_;rintro w1 hHeld
        refine takeM (d:=some 18) 0 rfl rfl hHeld (fun w' hS'=>by clear hS';go_simp;(try rfl)) ?_;simp only[puts];refine takeM (d:=some 19) 1 rfl rfl hHeld (fun w' hS'=>by clear hS';go_simp;(try rfl)) ?_;simp only[puts];refine takeM (d:=some 20) 2 rfl rfl hHeld (fun w' hS'=>by clear hS';go_simp;(try rfl)) ?_;simp only[puts]
        refine takeM (d:=some 21) 3 rfl rfl hHeld (fun w' hS'=>by clear hS';go_simp;(try rfl)) ?_;simp only[puts];refine takeM (d:=some 22) 4 rfl rfl hHeld (fun w' hS'=>by have qX:=HCX.out _ hS'.2;clear hS';go_simp;(try rfl)) ?_;simp only[puts];refine takeM (d:=some 23) 5 rfl rfl hHeld (fun w' hS'=>by clear hS';go_simp;(try rfl)) ?_;simp only[puts]
        refine takeM (d:=some 24) 6 rfl rfl hHeld (fun w' hS'=>by clear hS';go_simp;(try rfl)) ?_;simp only[puts];refine takeM (d:=some 25) 7 rfl rfl hHeld (fun w' hS'=>by clear hS';go_simp;(try rfl)) ?_;simp only[puts];refine takeM (d:=some 26) 8 rfl rfl hHeld (fun w' hS'=>by clear hS';go_simp;(try rfl)) ?_;simp only[puts]
        refine takeM (d:=some 27) 9 rfl rfl hHeld (fun w' hS'=>by have qY:=HCY.out _ hS'.2;clear hS';go_simp;(try rfl)) ?_;simp only[puts];refine one_M 10 (by kernel_rfl) ?_;refine wpOp_callv (d:=some 28) 10 (.tmp 18) 82 _ _ [.slice ax nx cx,.slice ay ny cy] rfl rfl rfl rfl (enters_of Tryz.func82 (by kernel_rfl) rfl) (by rfl) (by rfl) ?_;refine(HEQ.out _ hHeld.1).mono ?_;rintro e w2 ⟨rfl,q,rfl⟩
        refine ret_S (Held_drewN hHeld q) (fun hHeld=> ?_);simp only[puts];refine doneM (by kernel_rfl) ?_ _;obtain⟨hg2,ho2⟩:=hHeld;go_wp2_with fail;have HG2:=qq hg2;have HO2:=qq ho2;have hin:i+1<n:=by omega
        clear hg2 ho2 HEQ HCX HCY HX HY HXY hi0 hi1 hi2;obtain⟨k,hk⟩:∃k,k=i+1:=⟨_,rfl⟩
        have hki:(i:Int)+1=(k:Int):=by omega
        have HST:Hid (CompInv d (k+1) k d):=qq (by rw[hk];exact CompInv.start HK.out HDUP.out);have hkn:k<n:=by omega
        have hk1:1≤k:=by omega
        clear HK HDUP hto hi3 hwi;rw[←hk];clear hk hin
        go_loopw [5,7] (fun cc uu wr=>∃(kk j:Nat) (dk:Array PAlt) (vk:Array Value),k+j+1≤n∧cc=.int .i64 (kk:Int)∧uu=.int .i64 ((j:Int)+1)∧kk≤k+j∧vk.size=n∧Hid (CompInv d (k+j+1) kk dk)∧Hid (∀m,m<n→AltV BA w vk[m]! dk[m]!)∧Hid (∀m,kk≤m→vk[m]! =vs[m]!)∧Hid (w.grownBy wr (some g))∧Hid (wr.ownsRow B 71 1 (.slice (some ⟨g,0,none⟩) n cap) n vk.toList)) (fun _ uu _=>n - k - (RowKit.intOf uu).toNat)
        case atStart=>exact⟨k,0,d,vs,by omega,by first | rfl | go_num,by first | rfl | go_num,by omega,HVS.out,HST,qq (fun m hm=>HA.out.2 m (by rw[HDS.out];exact hm)),qq (fun m _=>rfl),HG2,HO2⟩
        case round=>
         obtain⟨kk,j,dk,vk,hj,rfl,rfl,hkk,hvk,HI,HS,HH,HG3,HO3⟩:=hrel;have HVK:=qq hvk;have hj0:(0:Int)≤(j:Int):=by omega
         have hkk0:(0:Int)≤(kk:Int):=by omega
         have hjt:((j:Int)+1).toNat=j+1:=by omega
         have hj3:(0:Int)≤(j:Int)+1:=by omega
         have hwj:IntKind.i64.wrap (j:Int)=(j:Int):=IntWalk.i64_in _ (by omega);clear hvk;by_cases hlt:k+j+1<n
         · have hj1:(j:Int)+1<((n - k:Nat):Int):=by omega
           have hj2:(j:Int)<((n - k:Nat):Int):=by omega
           have hx0:=HS.out (k+j+1) hlt;have hy0:=HS.out (k+j) (by omega);have hhx:vk[k+j+1]! =vs[k+j+1]! :=HH.out _ (by omega);have hdx:dk[k+j+1]! =d[k+j+1]! :=HI.out.high _ (by omega);have hdy:dk[k+j]! =d[k+j]! :=HI.out.high _ (by omega);have hkd:kk<n:=by omega
           rw[hdx] at hx0;rw[hdy] at hy0;have lx:=HL.out (k+j+1) (by rw[HDS.out];omega);have ly:=HL.out (k+j) (by rw[HDS.out];omega);obtain⟨x,hx⟩:∃x,x=d[k+j+1]! :=⟨_,rfl⟩
           obtain⟨y,hy⟩:∃y,y=d[k+j]! :=⟨_,rfl⟩
           rw[←hx] at hx0 lx;rw[←hy] at hy0 ly;obtain⟨ax,cx,ex⟩:=row_slice hx0;obtain⟨ay,cy,ey⟩:=row_slice hy0;have HEQ:=qq (fun(W:World) (hW:w.grownBy W (some g))=>same2_of BA BA vk[k+j+1]! vk[k+j]! x y W (alt_gr hx0 hW H.out rfl) (alt_gr hy0 hW H.out rfl) lx ly);rw[ex,ey] at HEQ;have HX0:=qq hx0;rw[ex] at HX0;obtain⟨nx,hnx⟩:∃q,q=x.length:=⟨_,rfl⟩
           obtain⟨ny,hny⟩:∃q,q=y.length:=⟨_,rfl⟩
           rw[←hnx] at HEQ ex HX0;rw[←hny] at HEQ ey;have HNX:=qq hnx;have HCX:Hid (∀W:World,W.ownsRow B 71 1 (.slice (some ⟨g,0,none⟩) n cap) n vk.toList→W.cell? ⟨g,k+(j+1),none⟩=some (.slice ax nx cx)):=qq (fun W hW=>by rw[←ex];exact(row_cell hW (k+j+1) (by rw[HVK.out];omega)).1)
           have HCY:Hid (∀W:World,W.ownsRow B 71 1 (.slice (some ⟨g,0,none⟩) n cap) n vk.toList→W.cell? ⟨g,k+j,none⟩=some (.slice ay ny cy)):=qq (fun W hW=>by rw[←ey];exact(row_cell hW (k+j) (by rw[HVK.out];omega)).1);have HEX:=qq ex;have HX:=qq hx;have HY:=qq hy;have HDX:=qq hdx;have HHX:=qq hhx;have HLT:=qq hlt;clear hx0 hy0 lx ly ex ey hnx hny hx hy hdx hdy hhx hlt;by_cases hxy:x=y
           · have HDUP:Hid (keeps d (k+j+1)=false):=qq (keeps_neg (by omega) (by rw[←HX.out,Nat.add_sub_cancel,←HY.out];exact hxy));rw[decide_eq_true hxy] at HEQ;clear hxy;go_wp2_with fail;refine reg_start (fun w'=>w.grownBy w' (some g)∧w'.ownsRow B 71 1 (.slice (some ⟨g,0,none⟩) n cap) n vk.toList) (by kernel_rfl) ⟨gr_drew HG3.out,row_dr HO3.out⟩ ?_;rintro w1 hHeld
             refine takeM (d:=some 38) 0 rfl rfl hHeld (fun w' hS'=>by clear hS';go_simp;(try rfl)) ?_;simp only[puts];refine takeM (d:=some 39) 1 rfl rfl hHeld (fun w' hS'=>by clear hS';go_simp;(try rfl)) ?_;simp only[puts];refine takeM (d:=some 40) 2 rfl rfl hHeld (fun w' hS'=>by clear hS';go_simp;(try rfl)) ?_;simp only[puts]
             refine takeM (d:=some 41) 3 rfl rfl hHeld (fun w' hS'=>by clear hS';go_simp;(try rfl)) ?_;simp only[puts];refine takeM (d:=some 42) 4 rfl rfl hHeld (fun w' hS'=>by have qX:=HCX.out _ hS'.2;clear hS';go_simp;(try rfl)) ?_;simp only[puts];refine takeM (d:=some 43) 5 rfl rfl hHeld (fun w' hS'=>by clear hS';go_simp;(try rfl)) ?_;simp only[puts]
             refine takeM (d:=some 44) 6 rfl rfl hHeld (fun w' hS'=>by clear hS';go_simp;(try rfl)) ?_;simp only[puts];refine takeM (d:=some 45) 7 rfl rfl hHeld (fun w' hS'=>by clear hS';go_simp;(try rfl)) ?_;simp only[puts];refine takeM (d:=some 46) 8 rfl rfl hHeld (fun w' hS'=>by clear hS';go_simp;(try rfl)) ?_;simp only[puts]
             refine takeM (d:=some 47) 9 rfl rfl hHeld (fun w' hS'=>by have qY:=HCY.out _ hS'.2;clear hS';go_simp;(try rfl)) ?_;simp only[puts];refine one_M 10 (by kernel_rfl) ?_;refine wpOp_callv (d:=some 48) 10 (.tmp 38) 82 _ _ [.slice ax nx cx,.slice ay ny cy] rfl rfl rfl rfl (enters_of Tryz.func82 (by kernel_rfl) rfl) (by rfl) (by rfl) ?_;refine(HEQ.out _ hHeld.1).mono ?_
             rintro e w2 ⟨rfl,q,rfl⟩;refine ret_S (Held_drewN hHeld q) (fun hHeld=> ?_);simp only[puts];refine takeM (d:=some 49) 11 rfl rfl hHeld (fun w' hS'=>by clear hS';go_simp;(try rfl)) ?_;simp only[puts];refine doneM (by kernel_rfl) ?_ _;obtain⟨hg2,ho2⟩:=hHeld;have HG4:=qq hg2;have HO4:=qq ho2;clear hg2 ho2;go_wp2_with fail;go_roundw
             case rel=>exact⟨kk,j+1,dk,vk,by omega,by first | rfl | go_num,by go_num,by omega,HVK.out,qq (HI.out.skip HDUP.out),HS,HH,HG4,HO4⟩
             case measure=>simp[RowKit.intOf];omega
           · have HKK:Hid (keeps d (k+j+1)=true):=qq (keeps_pos (by rw[←HX.out,Nat.add_sub_cancel,←HY.out];exact hxy));rw[decide_eq_false hxy] at HEQ;clear hxy;go_wp2_with fail;refine reg_start (fun w'=>w.grownBy w' (some g)∧w'.ownsRow B 71 1 (.slice (some ⟨g,0,none⟩) n cap) n vk.toList) (by kernel_rfl) ⟨gr_drew HG3.out,row_dr HO3.out⟩ ?_;rintro w1 hHeld
             refine takeM (d:=some 38) 0 rfl rfl hHeld (fun w' hS'=>by clear hS';go_simp;(try rfl)) ?_;simp only[puts];refine takeM (d:=some 39) 1 rfl rfl hHeld (fun w' hS'=>by clear hS';go_simp;(try rfl)) ?_;simp only[puts];refine takeM (d:=some 40) 2 rfl rfl hHeld (fun w' hS'=>by clear hS';go_simp;(try rfl)) ?_;simp only[puts]
             refine takeM (d:=some 41) 3 rfl rfl hHeld (fun w' hS'=>by clear hS';go_simp;(try rfl)) ?_;simp only[puts];refine takeM (d:=some 42) 4 rfl rfl hHeld (fun w' hS'=>by have qX:=HCX.out _ hS'.2;clear hS';go_simp;(try rfl)) ?_;simp only[puts];refine takeM (d:=some 43) 5 rfl rfl hHeld (fun w' hS'=>by clear hS';go_simp;(try rfl)) ?_;simp only[puts]
             refine takeM (d:=some 44) 6 rfl rfl hHeld (fun w' hS'=>by clear hS';go_simp;(try rfl)) ?_;simp only[puts];refine takeM (d:=some 45) 7 rfl rfl hHeld (fun w' hS'=>by clear hS';go_simp;(try rfl)) ?_;simp only[puts];refine takeM (d:=some 46) 8 rfl rfl hHeld (fun w' hS'=>by clear hS';go_simp;(try rfl)) ?_;simp only[puts]
             refine takeM (d:=some 47) 9 rfl rfl hHeld (fun w' hS'=>by have qY:=HCY.out _ hS'.2;clear hS';go_simp;(try rfl)) ?_;simp only[puts];refine one_M 10 (by kernel_rfl) ?_;refine wpOp_callv (d:=some 48) 10 (.tmp 38) 82 _ _ [.slice ax nx cx,.slice ay ny cy] rfl rfl rfl rfl (enters_of Tryz.func82 (by kernel_rfl) rfl) (by rfl) (by rfl) ?_;refine(HEQ.out _ hHeld.1).mono ?_
             rintro e w2 ⟨rfl,q,rfl⟩;refine ret_S (Held_drewN hHeld q) (fun hHeld=> ?_);simp only[puts];refine takeM (d:=some 49) 11 rfl rfl hHeld (fun w' hS'=>by clear hS';go_simp;(try rfl)) ?_;simp only[puts];refine doneM (by kernel_rfl) ?_ _;obtain⟨hg2,ho2⟩:=hHeld;have HG4:=qq hg2;have HO4:=qq ho2;have cx2:=HCX.out _ ho2;have hfz:=(row_cell ho2 kk (by rw[HVK.out];omega)).2
             have hold:=(row_cell ho2 kk (by rw[HVK.out];omega)).1;have hkk1:(kk:Int)<(n:Int):=by omega
             clear hg2 ho2;go_wp2_with fail;go_roundw
             case rel=>exact⟨kk+1,j+1,dk.setIfInBounds kk d[k+j+1]!,vk.setIfInBounds kk (.slice ax nx cx),by omega,by go_num,by go_num,by omega,by simp[HVK.out],qq (HI.out.keep (by rw[HDS.out];exact HLT.out) HKK.out),qq (fun m hm=>by
               by_cases e:m=kk
               · subst e;rw[Go.Sort.getElem!_set_same vk m _ (by rw[HVK.out];omega),Go.Sort.getElem!_set_same dk m _ (by rw[HI.out.size,HDS.out];omega),←HX.out];have:=HX0.out;exact this
               · rw[Go.Sort.getElem!_set_other vk kk m _ e,Go.Sort.getElem!_set_other dk kk m _ e];exact HS.out m hm),qq (fun m hm=>by rw[Go.Sort.getElem!_set_other vk kk m _ (by omega)];exact HH.out m (by omega)),qq (gr_set HG4.out kk _),qq (row_put HO4.out kk _ (by omega))⟩
             case measure=>simp[RowKit.intOf];omega
         · have hend:k+j+1=n:=by omega
           have hj1:¬(j:Int)+1<((n - k:Nat):Int):=by omega
           obtain⟨vs',hs1,hs2,hs3,hs4⟩:=row_puts (e:=71) (n:=n) (cap:=cap) (B:=B) (.slice none 0 0) (n - kk) kk wr vk (by omega) HO3.out;have hcl:∀ty,(Builtin.clear_ #[69] ty #[.slice (some ⟨g,kk,none⟩) (n - kk) (cap - kk)]).run Tryz.prog wr=.ok (.tuple #[]) (wr.setCells g kk (List.replicate (n - kk) (.slice none 0 0))):=
            fun ty=>Lib.run_clear_slice wr _ _ ty _ Tryz.underlying69 Tryz.zeroValue71 rfl rfl g kk _ _ (by omega) (fun m hm=>by rw[(row_cell HO3.out (kk+m) (by rw[HVK.out];omega)).1];rfl) (fun m hm=>(row_cell HO3.out (kk+m) (by rw[HVK.out];omega)).2)
           have hres:r=kk:=by rw[HR.out];have:=HI.out;rw[hend,←HDS.out] at this;exact this.len
           have HLOW:Hid (∀m,m<kk→∃s,(compactUpTo d d.size)[m]? =some s∧AltV BA w vk[m]! s):=qq (fun m hm=>by
             have h1:=HI.out;rw[hend,←HDS.out] at h1;exact⟨_,h1.low m hm,HS.out m (by omega)⟩)
           have HS1:=qq hs1;have HS2:=qq hs2;have HS3:=qq hs3;have HS4:=qq hs4;have hkc:(kk:Int)≤(cap:Int):=by omega
           have hkn2:(kk:Int)≤(n:Int):=by omega
           clear hs1 hs2 hs3 hs4 hend;subst hres;go_wp2_with fail;go_ret;exact⟨rfl,by omega,gr_trans HG3.out HS4.out,vs',by rw[HS1.out,HVK.out],HS3.out,fun m hm=>by rw[HS2.out m hm];exact HLOW.out m hm⟩
      · have HKK:Hid (keeps d (i+1)=true):=qq (keeps_pos (by rw[←HX.out,Nat.add_sub_cancel,←HY.out];exact hxy));rw[decide_eq_false hxy] at HEQ;clear hxy;go_wp2_with fail;refine reg_start (fun w'=>w.grownBy w' (some g)∧w'.ownsRow B 71 1 (.slice (some ⟨g,0,none⟩) n cap) n vs.toList) (by kernel_rfl) ⟨gr_drew HG.out,row_dr HO.out⟩ ?_;rintro w1 hHeld
        refine takeM (d:=some 18) 0 rfl rfl hHeld (fun w' hS'=>by clear hS';go_simp;(try rfl)) ?_;simp only[puts];refine takeM (d:=some 19) 1 rfl rfl hHeld (fun w' hS'=>by clear hS';go_simp;(try rfl)) ?_;simp only[puts];refine takeM (d:=some 20) 2 rfl rfl hHeld (fun w' hS'=>by clear hS';go_simp;(try rfl)) ?_;simp only[puts]
        refine takeM (d:=some 21) 3 rfl rfl hHeld (fun w' hS'=>by clear hS';go_simp;(try rfl)) ?_;simp only[puts];refine takeM (d:=some 22) 4 rfl rfl hHeld (fun w' hS'=>by have qX:=HCX.out _ hS'.2;clear hS';go_simp;(try rfl)) ?_;simp only[puts];refine takeM (d:=some 23) 5 rfl rfl hHeld (fun w' hS'=>by clear hS';go_simp;(try rfl)) ?_;simp only[puts]
        refine takeM (d:=some 24) 6 rfl rfl hHeld (fun w' hS'=>by clear hS';go_simp;(try rfl)) ?_;simp only[puts];refine takeM (d:=some 25) 7 rfl rfl hHeld (fun w' hS'=>by clear hS';go_simp;(try rfl)) ?_;simp only[puts];refine takeM (d:=some 26) 8 rfl rfl hHeld (fun w' hS'=>by clear hS';go_simp;(try rfl)) ?_;simp only[puts]
        refine takeM (d:=some 27) 9 rfl rfl hHeld (fun w' hS'=>by have qY:=HCY.out _ hS'.2;clear hS';go_simp;(try rfl)) ?_;simp only[puts];refine one_M 10 (by kernel_rfl) ?_;refine wpOp_callv (d:=some 28) 10 (.tmp 18) 82 _ _ [.slice ax nx cx,.slice ay ny cy] rfl rfl rfl rfl (enters_of Tryz.func82 (by kernel_rfl) rfl) (by rfl) (by rfl) ?_;refine(HEQ.out _ hHeld.1).mono ?_;rintro e w2 ⟨rfl,q,rfl⟩
        refine ret_S (Held_drewN hHeld q) (fun hHeld=> ?_);simp only[puts];refine doneM (by kernel_rfl) ?_ _;obtain⟨hg2,ho2⟩:=hHeld;have HG2:=qq hg2;have HO2:=qq ho2;clear hg2 ho2;go_wp2_with fail;go_roundw
        case rel=>exact⟨i+1,by omega,by go_num,HG2,HO2,qq (fun j hj=>by
          rcases Nat.lt_or_ge j (i+1) with h | h
          · exact HK.out j h
          · obtain rfl:j=i+1:=by omega
            exact HKK.out)⟩
        case measure=>simp[intOf];omega
    · have hin:i+1=n:=by omega
      have hi1:(i:Int)+1=(n:Int):=by omega
      have hnlt:¬(i:Int)+1<(n:Int):=by omega
      have hr:r=n:=(HALL.out (fun j hj=>HK.out j (by omega))).1;have hend:=(HALL.out (fun j hj=>HK.out j (by omega))).2;have HEND:=qq hend;clear hend hi1;subst hr;go_wp2_with fail;go_ret;exact⟨rfl,HG.out,vs,HVS.out,HO.out,HEND.out⟩
end Go.Proofs.YtbepkpjcjpmpmaaGreatDoor
