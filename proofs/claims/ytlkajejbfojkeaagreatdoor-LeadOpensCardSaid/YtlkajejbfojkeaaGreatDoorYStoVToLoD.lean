/- StoV, StepR, LoS, FlSum, FlD, LoP, Acts, LoA, LoD -/
import Derived.Test.YtlkajejbfojkeaaGreatDoorWQq
import Derived.Test.YtlkajejbfojkeaaGreatDoorRows
import Derived.WalkKit
import Derived.WalkSpells
import Derived.WalkLawsBesides
import Derived.BigQuiet
import Derived.Deep.QuietTactic
import Derived.StillTailTactics
import Derived.Handy
import Derived.Lib.Hide
import Derived.Test.YtlkajejbfojkeaaGreatDoorWTabLToStoE
import Derived.Test.YtlkajejbfojkeaaGreatDoorWStoGToFacE
import Derived.Test.YtlkajejbfojkeaaGreatDoorWStoSToRfcA
import Derived.Test.YtlkajejbfojkeaaGreatDoorWStepMToLdD
import Derived.Test.YtlkajejbfojkeaaGreatDoorWFacB
import Derived.Test.YtlkajejbfojkeaaGreatDoorWRstEToDlA
import Derived.Test.YtlkajejbfojkeaaGreatDoorWLdAToLdB
import Derived.Test.YtlkajejbfojkeaaGreatDoorWMovCToStoP
import Derived.Laws.FloatArith
import Derived.Maps.AppendAt
import Derived.Lib.SmallJoins
import Derived.Test.YtlkajejbfojkeaaGreatDoorWRfcBToJoA
import Derived.Test.YtlkajejbfojkeaaGreatDoorWRstBToTabN
set_option linter.unusedSimpArgs false
set_option linter.unusedVariables false
set_option maxRecDepth 100000
set_option maxHeartbeats 16000000
namespace Go.Proofs.YtlkajejbfojkeaaGreatDoor
open Go.RowKit
attribute [local go_sem] store_float
theorem next_of (L:SLoc) (S:Sto) (w:World) (h:StoreAt L S w):Calls Tryz.prog 95 #[.pointer (some ⟨L.sb,0,none⟩)] w (Gives (.int .i64 S.next) w):=by
 have c0:w.cell? ⟨L.sb,1,none⟩=some (.int .i64 S.next):=h.blk.cell 1;clear h;generalize S.next=x at*;go_enter Tryz.func95,Tryz.ntmps95;go_wp2;go_ret;exact⟨rfl,rfl⟩
open Go.RowKit Go.Shelf
section
variable {P:Program} {ops:Array Oper} {Q:Exit→Act→World→Prop} {md:Region.Mode} {S:World→Prop}
end
theorem hp_st {w:World} {b:Nat} {o:Obj} (h:w.heap[b]? =some o) {p:Addr} (hp:p.block≠b) (v:Value):(w.setCell p v).heap[b]? =some o:=(Below.heap_setCell _ _ _ _ (fun e=>hp e.symm)).trans h
theorem hp_gr {w w':World} {b g:Nat} {o:Obj} (h:w.heap[b]? =some o) (hg:w.grownBy w' (some g)) (hne:g≠b):w'.heap[b]? =some o:=(hg.block _ (Array.getElem?_eq_some_iff.1 h).1 (fun e=>hne (by injection e with e;exact e.symm))).trans h
theorem rr_st {w:World} {B:Nat} {fv mv:Value} {r:SRes} (h:ReadR B w fv mv r) {p:Addr} (hp:p.block<B) (u:Value):ReadR B (w.setCell p u) fv mv r:=
 h.heap (by simp) (fun k hk=>Below.heap_setCell _ _ _ _ (by omega))
theorem bst {w w':World} (h:Below w.heap.size w w') (b o:Nat) (v:Value) (hb:w.heap.size≤b:=by omega):Below w.heap.size w (w'.setCell ⟨b,o,none⟩ v):=bel_set h (p:=⟨b,o,none⟩) hb v
theorem hst {w:World} {k:Nat} {q:Obj} (h:w.heap[k]? =some q) (b o:Nat) (v:Value) (hb:b≠k:=by omega):(w.setCell ⟨b,o,none⟩ v).heap[k]? =some q:=hp_st h (p:=⟨b,o,none⟩) hb v
theorem rst {w:World} {B:Nat} {fv mv:Value} {r:SRes} (h:ReadR B w fv mv r) (b o:Nat) (v:Value) (hb:b<B:=by omega):ReadR B (w.setCell ⟨b,o,none⟩ v) fv mv r:=rr_st h (p:=⟨b,o,none⟩) hb v
theorem ost {w:World} {k:Nat} {C:Array Value} (h:Blk w k C) (b o:Nat) (v:Value) (hb:b≠k:=by omega):Blk (w.setCell ⟨b,o,none⟩ v) k C:=h.other (p:=⟨b,o,none⟩) hb v
theorem sst {w:World} {b:Nat} {C:Array Value} (h:Blk w b C) (i:Nat) (v:Value) (hi:i<C.size:=by simp):Blk (w.setCell ⟨b,i,none⟩ v) b (C.set i v hi):=h.set' i hi v
open Ieee
theorem nearest_pos (mag:Nat) (place:Int):double.nearest false mag place≤9218868437227405312:=by
 have e3:double.infRung=9218868437227405312:=by decide
 unfold Format.nearest;dsimp only;split
 · unfold Format.word;simp
 · unfold Format.word;rw[e3];simp only[Bool.false_eq_true,if_false];exact Nat.min_le_right _ _
theorem add_delay (a b:Nat) (ha:a≤9218868437227405312) (hb:b≤9218868437227405312):∃r,double.add a b=some r∧r≤9218868437227405312:=by
 have e3:double.infRung=9218868437227405312:=by decide
 have ra:(∃m i,double.read a=.number false m i)∨double.read a=.infinity false:=by
  have hd:a / 9223372036854775808=0:=by omega
  have hm:a % 9223372036854775808=a:=by omega
  by_cases h:a<9218868437227405312
  · obtain⟨m,i,e,_⟩:=read_num a (by rw[hm];exact h);rw[hd] at e;exact .inl ⟨m,_,e⟩
  · have e:=read_inf a (by rw[hm];omega);rw[hd] at e;exact .inr e
 have rb:(∃m i,double.read b=.number false m i)∨double.read b=.infinity false:=by
  have hd:b / 9223372036854775808=0:=by omega
  have hm:b % 9223372036854775808=b:=by omega
  by_cases h:b<9218868437227405312
  · obtain⟨m,i,e,_⟩:=read_num b (by rw[hm];exact h);rw[hd] at e;exact .inl ⟨m,_,e⟩
  · have e:=read_inf b (by rw[hm];omega);rw[hd] at e;exact .inr e
 have winf:double.write (.infinity false)≤9218868437227405312:=by
  unfold Format.write Format.word;rw[e3];simp
 unfold Format.add;rcases ra with⟨m,i,ea⟩ | ea<;>rcases rb with⟨n,j,eb⟩ | eb<;>rw[ea,eb]
 · refine⟨_,rfl,?_⟩;have hs:∀t:Int,0≤t→(if t=0 then(false && false) else decide (t<0))=false:=fun t ht=>by
    split
    · rfl
    · exact decide_eq_false (by omega)
   show double.write _≤_
   unfold Format.write;have hn:∀(m up:Nat),0≤signed false m up:=fun m up=>by rw[signed_sgn];unfold sgn;rw[if_neg (by decide)];exact Int.natCast_nonneg _
   rw[hs _ (Int.add_nonneg (hn _ _) (hn _ _))];exact nearest_pos _ _
 · exact⟨_,rfl,winf⟩
 · exact⟨_,rfl,winf⟩
 · exact⟨_,rfl,winf⟩
theorem plain_le (x:Nat) (hd:fdelay x=true):fplain x≤9218868437227405312:=by
 unfold fdelay at hd;simp only[Bool.and_eq_true,Bool.not_eq_true',decide_eq_true_eq] at hd;unfold fplain;rw[hd.1];simp only[Bool.false_eq_true,if_false];have h1:=hd.1;unfold fnan at h1;simp only[decide_eq_false_iff_not] at h1;split<;>omega
def fsum (a b:Nat):Nat:=((Ieee.double.add a b).getD 0)
theorem fsum_some (a b:Nat) (ha:a≤9218868437227405312) (hb:b≤9218868437227405312):floatBits .add .f64 a b=some (fsum a b)∧fsum a b≤9218868437227405312:=by
 obtain⟨r,h1,h2⟩:=add_delay a b ha hb;have e:fsum a b=r:=by unfold fsum;rw[h1];rfl
 rw[e];exact⟨h1,h2⟩
theorem delay_of_le (x:Nat) (h:x≤9218868437227405312):F64 x∧fdelay x=true∧fplain x=x:=by
 have hn:fnan x=false:=by unfold fnan;rw[decide_eq_false];omega
 refine⟨by unfold F64;omega,?_,?_⟩
 · unfold fdelay;rw[hn,Bool.not_false,Bool.true_and,decide_eq_true_eq];omega
 · unfold fplain;rw[hn];simp only[Bool.false_eq_true,if_false];rw[if_neg (by omega)]
theorem later_yes (x y:Nat) (hx:F64 x) (hy:F64 y) (dx:fdelay x=true) (dy:fdelay y=true) (w:World):Calls Tryz.prog 248 #[flV x,flV y] w (Gives (.tuple #[flV (fsum (fplain x) (fplain y)),.nilIface]) w):=by
 have HX:=qq (fun W=>delay_yes x hx dx W);have HY:=qq (fun W=>delay_yes y hy dy W);have hs:=fun(w:World)=>run_float_arith (P:=Tryz.prog) w .add 37 .f64 _ _ _ (fsum_some _ _ (plain_le x dx) (plain_le y dy)).1
 generalize fsum (fplain x) (fplain y)=r at*;generalize fplain x=a at*;generalize fplain y=b at*;clear hx hy dx dy;go_enter Tryz.func248,Tryz.ntmps248;go_wp2_with fail;refine(HX.out _).mono ?_;rintro e w1 ⟨rfl,rfl⟩;go_wp2_with fail;refine(HY.out _).mono ?_;rintro e w1 ⟨rfl,rfl⟩;go_wp2;go_ret2;exact⟨rfl,rfl⟩
theorem later_no (x y:Nat) (hx:F64 x) (hy:F64 y) (dx:fdelay x=true) (dy:fdelay y=false) (b:Addr) (w:World) (he:ErrIs w 3 b):Calls Tryz.prog 248 #[flV x,flV y] w (Makes (.tuple #[flV 0,errV b]) w):=by
 have HX:=qq (fun W=>delay_yes x hx dx W);have HY:=qq (fun W hW=>delay_no y hy dy b W hW);have HE:=qq he;generalize fplain x=a at*;clear hx hy dx dy he;go_enter Tryz.func248,Tryz.ntmps248;go_wp2_with fail;refine(HX.out _).mono ?_;rintro e w1 ⟨rfl,rfl⟩;go_wp2_with fail;refine(HY.out _ HE.out).mono ?_;rintro e w1 ⟨rfl,hb1⟩;have h1:w1.cell? ⟨3,0,none⟩=some (errV b):=HE.out.below hb1;go_wp2_with fail
 go_region
 all_goals go_wp2
 all_goals go_ret2
 all_goals exact⟨rfl,hb1.drew⟩
structure SCtx where
 an:Int
 aq:Int
 oc:Int
 dp:Int
 ex:Nat
def ctx0:SCtx:=⟨0,0,0,0,0⟩
def fOpn (c:SCtx) (pa:Int):SFact:=⟨1,c.an,c.aq,0,0,0,0,c.oc,c.dp,pa,0,0,0,c.ex⟩
def lFull (S:Sto):Bool:=decide (8≤S.acts.length∨1000000≤S.next)
def lOpen (S:Sto) (oc:Int) (now lasts:Nat):SRes×SCtx×Int:=
 if lFull S=true then(res0,ctx0,6)
 else if fdelay now=false∨fdelay lasts=false∨¬(oc=1∨oc=2) then(res0,ctx0,4)
 else(⟨[fOpn ⟨S.node,S.next,oc,0,fsum (fplain now) (fplain lasts)⟩ 0],[],0⟩,⟨S.node,S.next,oc,0,fsum (fplain now) (fplain lasts)⟩,0)
def lNest (S:Sto) (pt:Int) (c:SCtx):SRes×SCtx×Int:=match pGet S pt with
 | none=>(res0,ctx0,8)
 | some p=>
  if ctxOk c.an c.aq c.oc c.dp c.ex=false∨¬(c.an=p.an∧c.aq=p.aq) then(res0,ctx0,4)
  else if lWorks p.seat=false∨(schild S (pt+1)).isSome=true then(res0,ctx0,9)
  else if lFull S=true then(res0,ctx0,6)
  else if 2<c.dp then(res0,ctx0,11)
  else(⟨[fOpn ⟨S.node,S.next,1,c.dp+1,c.ex⟩ (pt+1)],[],0⟩,⟨S.node,S.next,1,c.dp+1,c.ex⟩,0)
theorem apply_opn {S:Sto} (hS:StoGood S) (hf:lFull S=false) (c:SCtx) (pa:Int) (hn:c.an=S.node) (hq:c.aq=S.next) (ho:c.oc=1∨c.oc=2) (hd:0≤c.dp∧c.dp≤3) (hx:fdelay c.ex=true) (hp:fplain c.ex=c.ex) (h0:0≤pa) (h8:pa≤S.parts.length) (hc:0<pa→schild S pa=none):∃T,sfit S [fOpn c pa]=(T,true):=by
 have hl:¬(8≤S.acts.length∨1000000≤S.next):=by unfold lFull at hf;simpa using hf
 have h1:=hS.node;have h2:=hS.next;have h3:=hS.parts;have hid:idOk c.an c.aq=true:=by unfold idOk;rw[hn,hq];exact decide_eq_true (by omega)
 have hk:fok (fOpn c pa)=true:=by
  unfold fok fOpn;dsimp only;rw[if_pos rfl];unfold ctxOk;rw[hx,hp,hid];simp;omega
 have hput:∃T,sput S (fOpn c pa)=some T:=by
  unfold sput fOpn;dsimp only;rw[if_pos rfl,if_neg]
  · exact⟨_,rfl⟩
  · rintro(h | h | h | ⟨h,h' | h'⟩)
    · exact h hn
    · omega
    · exact hl (.inl h)
    · omega
    · rw[hc h] at h';cases h'
 obtain⟨T,hT⟩:=hput;refine⟨T,?_⟩;have ha:sapply S (fOpn c pa)=(T,0):=by unfold sapply;rw[hk,if_neg (by simp),hT]
 unfold sfit;rw[ha,if_pos rfl];rfl
theorem lOpen_fits {S:Sto} (hS:StoGood S) (oc:Int) (now lasts:Nat):∃T,sfit S (lOpen S oc now lasts).1.fs=(T,true):=by
 unfold lOpen;split
 · exact⟨S,rfl⟩
 rename_i hf
 split
 · exact⟨S,rfl⟩
 rename_i hb
 have h:=(fsum_some _ _ (plain_le now (by cases hh:fdelay now with | true=>rfl | false=>exact absurd (.inl hh) hb)) (plain_le lasts (by cases hh:fdelay lasts with | true=>rfl | false=>exact absurd (.inr (.inl hh)) hb))).2;have hx:=delay_of_le _ h
 exact apply_opn hS (by simpa using hf) _ 0 rfl rfl (Classical.byContradiction fun h=>hb (.inr (.inr h))) ⟨by simp,by simp⟩ hx.2.1 hx.2.2 (by omega) (by omega) (by omega)
theorem lNest_fits {S:Sto} (hS:StoGood S) (pt:Int) (c:SCtx):∃T,sfit S (lNest S pt c).1.fs=(T,true):=by
 unfold lNest;split
 · exact⟨S,rfl⟩
 rename_i p hg
 split
 · exact⟨S,rfl⟩
 rename_i h1
 split
 · exact⟨S,rfl⟩
 rename_i h2
 split
 · exact⟨S,rfl⟩
 rename_i hf
 split
 · exact⟨S,rfl⟩
 rename_i hd
 have hok:ctxOk c.an c.aq c.oc c.dp c.ex=true:=by cases hh:ctxOk c.an c.aq c.oc c.dp c.ex with | true=>rfl | false=>exact absurd (.inl hh) h1
 unfold ctxOk at hok;simp only[Bool.and_eq_true,decide_eq_true_eq] at hok;have hpt:0≤pt∧pt<S.parts.length:=by
  unfold pGet at hg;split at hg
  · have:=(List.getElem?_eq_some_iff.1 hg).1;omega
  · cases hg
 refine apply_opn hS (by simpa using hf) _ (pt+1) rfl rfl (.inl rfl) ⟨by dsimp only;omega,by dsimp only;omega⟩ hok.1.1.1 hok.1.1.2 (by omega) (by omega) (fun _=> ?_)
 cases hh:schild S (pt+1) with
 | none=>rfl
 | some i=>exact absurd (.inr (by rw[hh];rfl)) h2
theorem lOpen_ex {S:Sto} {oc:Int} {now lasts:Nat}:∀f∈(lOpen S oc now lasts).1.fs,F64 f.ex:=by
 intro f hf;unfold lOpen at hf;split at hf
 · cases hf
 split at hf
 · cases hf
 rename_i hb
 obtain rfl:=List.mem_singleton.1 hf;have h:=(fsum_some _ _ (plain_le now (by cases hh:fdelay now with | true=>rfl | false=>exact absurd (.inl hh) hb)) (plain_le lasts (by cases hh:fdelay lasts with | true=>rfl | false=>exact absurd (.inr (.inl hh)) hb))).2;exact(delay_of_le _ h).1
theorem lNest_ex {S:Sto} {pt:Int} {c:SCtx} (hc:F64 c.ex):∀f∈(lNest S pt c).1.fs,F64 f.ex:=by
 intro f hf;unfold lNest at hf
 repeat' split at hf
 all_goals first | (cases hf;done) | (obtain rfl:=List.mem_singleton.1 hf;exact hc)
theorem lOpen_len {S:Sto} {oc:Int} {now lasts:Nat}:(lOpen S oc now lasts).1.fs.length≤1∧(lOpen S oc now lasts).1.ms.length≤1:=by
 unfold lOpen
 repeat' split
 all_goals simp[res0]
theorem lNest_len {S:Sto} {pt:Int} {c:SCtx}:(lNest S pt c).1.fs.length≤1∧(lNest S pt c).1.ms.length≤1:=by
 unfold lNest
 repeat' split
 all_goals simp[res0]
theorem lOpen_num {S:Sto} {oc:Int} {now lasts:Nat}:0≤(lOpen S oc now lasts).2.2∧(lOpen S oc now lasts).2.2≤14:=by
 unfold lOpen
 repeat' split
 all_goals simp
theorem lNest_num {S:Sto} {pt:Int} {c:SCtx}:0≤(lNest S pt c).2.2∧(lNest S pt c).2.2≤14:=by
 unfold lNest
 repeat' split
 all_goals simp
theorem lOpen_c64 {S:Sto} {oc:Int} {now lasts:Nat}:F64 (lOpen S oc now lasts).2.1.ex:=by
 unfold lOpen;split
 · exact f64_zero
 split
 · exact f64_zero
 rename_i hb
 have h:=(fsum_some _ _ (plain_le now (by cases hh:fdelay now with | true=>rfl | false=>exact absurd (.inl hh) hb)) (plain_le lasts (by cases hh:fdelay lasts with | true=>rfl | false=>exact absurd (.inr (.inl hh)) hb))).2;exact(delay_of_le _ h).1
theorem lNest_c64 {S:Sto} {pt:Int} {c:SCtx} (hc:F64 c.ex):F64 (lNest S pt c).2.1.ex:=by
 unfold lNest
 repeat' split
 all_goals first | exact f64_zero | exact hc
theorem infoActI:(Tryz.prog.info? 51).map (fun i=>(i.zero,i.size,i.bytes))=some (some (.agg #[.int .i64 0,.int .i64 0,.int .i64 0,.int .i64 0,.float .f64 0,.int .i64 0,.int .i64 0,.slice none 0 0]),8,80):=by kernel_rfl
structure ActsIn (B:Nat) (v:Value) (al:List SAct) (vs:List Value) (w:World):Prop where
 len:vs.length=al.length
 row:w.ownsRow B 51 8 v al.length (actsL al vs)
 regs:∀(i:Nat) (a:SAct) (x:Value),al[i]? =some a→vs[i]? =some x→w.ownsRow B 55 6 x a.regs.length (regsL a.regs)
 apart:∀x∈vs,∀k,x.ownBlock=some k→v.ownBlock≠some k
theorem ActsIn.below {B:Nat} {v:Value} {al:List SAct} {vs:List Value} {w w':World} (h:ActsIn B v al vs w) (hb:Below w.heap.size w w'):ActsIn B v al vs w':=
 ⟨h.len,row_heap h.row (fun k hk=>hb.block k (h.row.lt k hk).2),fun i a x h1 h2=>row_heap (h.regs i a x h1 h2) (fun k hk=>hb.block k ((h.regs i a x h1 h2).lt k hk).2),h.apart⟩
theorem ActsIn.nil (B:Nat) (w:World):ActsIn B (.slice none 0 0) [] [] w:=⟨rfl,World.ownsRow_nil _ _ _ _,fun i a x h=>by simp at h,fun x h=>by cases h⟩
theorem ActsIn.snoc {B : Nat} {v v2 : Value} {al : List SAct} {vs : List Value} {w w2 : World} {a : SAct} {x : Value} (h : ActsIn B v al vs w) (hx : w.ownsRow B 55 6 x a.regs.length (regsL a.regs)) (hax : ∀ k, x.ownBlock = some k → v.ownBlock ≠ some k)
    (hr:w2.ownsRow B 51 8 v2 (al.length+1) (actsL al vs ++actL a x)) (hg:w.grownBy w2 v.ownBlock) (hat:v2.ownBlock=v.ownBlock∨v2.ownBlock=some w.heap.size):ActsIn B v2 (al ++ [a]) (vs ++ [x]) w2:=by
 have keep:∀(u:Value) (r:List SReg),w.ownsRow B 55 6 u r.length (regsL r)→(∀k,u.ownBlock=some k→v.ownBlock≠some k)→w2.ownsRow B 55 6 u r.length (regsL r):=fun u r h1 h2=>
  row_heap h1 (fun k hk=>hg.block k (h1.lt k hk).2 (fun e=>h2 k hk e.symm))
 have apart2:∀(u:Value) (r:List SReg),w.ownsRow B 55 6 u r.length (regsL r)→(∀k,u.ownBlock=some k→v.ownBlock≠some k)→∀k,u.ownBlock=some k→v2.ownBlock≠some k:=fun u r h1 h2 k hk e=>by
  rcases hat with h3 | h3
  · exact h2 k hk (by rw[←h3];exact e)
  · have:=(h1.lt k hk).2;rw[h3] at e;injection e with e
    omega
 have hl:=h.len;refine⟨by simp[h.len],?_,fun i a' x' h1 h2=> ?_,fun u hu k hk=> ?_⟩
 · rw[List.length_append];unfold actsL at hr⊢;rw[List.zip_append h.len.symm,List.flatMap_append];simpa using hr
 · by_cases hi:i<al.length
   · rw[List.getElem?_append_left hi] at h1;rw[List.getElem?_append_left (by omega)] at h2;exact keep _ _ (h.regs i a' x' h1 h2) (h.apart x' (List.mem_of_getElem? h2))
   · rw[List.getElem?_append_right (by omega)] at h1;rw[List.getElem?_append_right (by omega),hl] at h2;have e0:i - al.length=0:=by
      rcases Nat.eq_zero_or_pos (i - al.length) with e | e
      · exact e
      · rw[List.getElem?_eq_none (by simp;omega)] at h1;cases h1
     rw[e0] at h1 h2;simp at h1 h2;subst h1 h2;exact keep _ _ hx hax
 · rcases List.mem_append.1 hu with hu | hu
   · obtain⟨i,hi,rfl⟩:=List.getElem_of_mem hu;exact apart2 _ _ (h.regs i al[i] vs[i] (List.getElem?_eq_getElem (by omega)) (List.getElem?_eq_getElem hi)) (h.apart _ hu) k hk
   · obtain rfl:=List.mem_singleton.1 hu;exact apart2 _ _ hx hax k hk
theorem actL_ones (a:SAct) (v:Value) (hv:v.oneCell'=true):∀u∈actL a v,u.oneCell'=true:=by
 intro u hu;simp only[actL,List.mem_cons,List.not_mem_nil,or_false] at hu;rcases hu with rfl | rfl | rfl | rfl | rfl | rfl | rfl | rfl<;>first | rfl | exact hv
theorem acts_of (L:SLoc) (S:Sto) (w:World) (h:StoreAt L S w) (hG:StoGood S):Calls Tryz.prog 24 #[.pointer (some ⟨L.sb,0,none⟩)] w fun e w'=>∃v vs,e=.returned v∧ActsIn w.heap.size v S.acts vs w'∧Below w.heap.size w w':=by
 obtain⟨i0,ei,ez,es,eb⟩:=info_parts infoActI;obtain⟨aa,ac,hav,hal,har⟩:=ptr_row h.acts;have h8:=hG.acts;have HACT:=qq (fun W (hW:StoreAt L S W)=>hW.act);have HLEN:=qq (fun a (ha:a∈S.acts)=>(hG.act a ha).len);have H:=qq h;have hlen:=h.len;obtain⟨n,hn⟩:∃n,n=S.acts.length:=⟨_,rfl⟩
 rw[←hn] at har h8;have c2:∀W,StoreAt L S W→W.cell? ⟨L.sb,2,none⟩=some (.slice aa n ac):=fun W hW=>by have:=hW.blk.cell 2;rw[hav] at this;rw[hn];exact this
 have HC2:=qq c2;have HAR:=qq har;have HN:=qq hn;have HHL:=qq hlen;have hsb:=h.blk.lt;have q2:=c2 w h;clear h hG har hal hav c2 hn hlen;go_enter Tryz.func24,Tryz.ntmps24;go_wp2_with fail;go_loopw [3,11] (fun v i wr=>∃k:Nat,k≤n∧i=.int .i64 (k:Nat)∧Hid (∃vs,ActsIn w.heap.size v (S.acts.take k) vs wr)∧Below w.heap.size w wr) (fun _ i _=>n - (intOf i).toNat)
 case atStart=>exact⟨0,by omega,by first | rfl | go_num,qq ⟨[],by rw[List.take_zero];exact ActsIn.nil _ _⟩,by go_grown⟩
 case round=>
  obtain⟨k,hk,rfl,⟨vs,HV⟩,hB⟩:=hrel;have HVS:=qq HV;by_cases hlt:k<n
  · have hks:k<S.acts.length:=by rw[←HN.out];exact hlt
    obtain⟨g,rfl,hg,_,hpt⟩:=HAR.out (by omega);obtain⟨x,hx⟩:∃x,L.ab[k]? =some x:=⟨_,List.getElem?_eq_getElem (by rw[HHL.out];exact hks)⟩
    obtain⟨a,ha⟩:∃a,S.acts[k]? =some a:=⟨_,List.getElem?_eq_getElem hks⟩
    have HS:=qq (H.out.below hB);obtain⟨hbk,hrg⟩:=HACT.out _ HS.out k x a hx ha;have hp:=(hB.cell (p:=⟨g,k,none⟩) hg).trans (hpt k x hx);have HCP:=qq (copied_of a x.2 wr hrg (HLEN.out a (List.mem_of_getElem? ha)));have HA:=qq ha;have lk:=hbk.lt;have qk:=hbk.cell;have hki:(k:Int)<(n:Int):=by omega
    have hk0:(0:Int)≤(k:Int):=by omega
    have hgw:g<wr.heap.size:=Nat.lt_of_lt_of_le hg hB.size;have hl6:=HLEN.out a (List.mem_of_getElem? ha);have hlt8:(S.acts.take k).length=k:=by rw[List.length_take];omega
    obtain⟨av,cv,hv⟩:=row_slice HV.row;rw[hlt8] at hv;subst hv;obtain⟨xb,xv⟩:=x;obtain⟨an,aq,oc,dp,ex,pa,de,rs⟩:=a;dsimp only[actC] at*;clear hbk hrg hpt hx ha HV;go_wp2_with fail;refine HCP.out.mono ?_;rintro e w1 ⟨v',rfl,ho,hb1⟩;obtain⟨va,vc,rfl⟩:=row_slice ho;have HO:=qq (row_base ho hB.size);have HNB:=qq (fun j hj=>(ho.lt j hj).1);have HV1:=qq (HVS.out.below hb1)
    have B1:Below w.heap.size w w1:=below_then hB hb1;have hsz1:=hb1.size;clear hp qk lk ho hb1
    go_wp2_with (at_builtin;refine wpList_append_own_at _ rfl _ _ 45 rfl w.heap.size 51 i0 (.agg #[.int .i64 0,.int .i64 0,.int .i64 0,.int .i64 0,.float .f64 0,.int .i64 0,.int .i64 0,.slice none 0 0]) 8 80 Tryz.underlying45 ei ez es eb rfl (by decide) _ _ _ rfl (by have:=HV1.out.row;rw[hlt8] at this;exact row_heap this (fun k hk=>by rw[((Below.refl w1.heap.size w1).alloc (Nat.le_refl _) _).block k (this.lt k hk).2])) ⟨w1.heap.size,0,none⟩ 1 1 (actL ⟨an,aq,oc,dp,ex,pa,de,rs⟩ (.slice va rs.length vc)) (by rfl) rfl (lit_cells (Blk.fresh _ _ _ _ rfl)) (actL_ones _ _ rfl) ?d3 ?d4 ?d5 ?_)
    case d3=>unfold maxLen;omega
    case d4=>omega
    case d5=>have:=B1.size;simp;omega
    intro v2 w3 hown hgrow _ hat;have HW:=qq (show ∃vs2,ActsIn w.heap.size v2 (S.acts.take (k+1)) vs2 w3 from⟨vs ++ [.slice va rs.length vc],by
      have htk:S.acts.take (k+1)=S.acts.take k ++ [⟨an,aq,oc,dp,ex,pa,de,rs⟩]:=by
        obtain⟨hj,he⟩:=List.getElem?_eq_some_iff.1 HA.out;rw[List.take_succ_eq_append_getElem hj,he]
      rw[htk];refine ActsIn.snoc (w:=w1.alloc (.cells #[an,aq,oc,dp,.float .f64 ex,pa,de,.slice va rs.length vc] 51)) (HV1.out.below ((Below.refl w1.heap.size w1).alloc (Nat.le_refl _) _)) (row_heap HO.out (fun j hj=>((Below.refl w1.heap.size w1).alloc (Nat.le_refl _) _).block j (HO.out.lt j hj).2)) (fun j hj e=> ?_) (by rw[hlt8];exact hown) hgrow (by simpa using hat);have h1:=HNB.out j hj
      have h2:=(HVS.out.row.lt j e).2;omega⟩)
    have B3:Below w.heap.size w w3:=(B1.alloc B1.size _).grown hgrow (by have:=B1.size;simp;omega) (fun j hj=>by have:=(HVS.out.row.lt j hj).1;omega);clear hown hgrow hat;go_wp2_with fail
    all_goals (go_roundw<;>first | exact⟨k+1,by omega,by go_num,HW,B3⟩ | (simp[intOf];omega))
  · obtain rfl:k=n:=by omega
    have HF:Hid (ActsIn w.heap.size _ S.acts vs wr):=qq (by have:=HVS.out;rw[List.take_of_length_le (by rw[←HN.out];omega)] at this;exact this);obtain⟨av,cv,rfl⟩:=row_slice HF.out.row;go_wp2_with fail;go_ret;exact⟨_,vs,rfl,HF.out,hB⟩
theorem later_bad (x y:Nat) (hx:F64 x) (hy:F64 y) (hd:fdelay x=false∨fdelay y=false) (b:Addr) (w:World) (he:ErrIs w 3 b):Calls Tryz.prog 248 #[flV x,flV y] w (Makes (.tuple #[flV 0,errV b]) w):=by
 cases dx:fdelay x with
 | true=>exact later_no x y hx hy dx (hd.resolve_left (by rw[dx];simp)) b w he
 | false=>
 have HX:=qq (fun W hW=>delay_no x hx dx b W hW);have HY:Hid (∀W,ErrIs W 3 b→∃v e2,(v.oneCell'=true∧(e2=.nilIface∨e2=errV b))∧Calls Tryz.prog 221 #[flV y] W (Makes (.tuple #[v,e2]) W)):=qq (fun W hW=>by
   cases dy:fdelay y with
   | true=>exact⟨flV (fplain y),.nilIface,⟨rfl,.inl rfl⟩,(delay_yes y hy dy W).mono (fun e w' h=>by obtain⟨h1,h2⟩:=h;subst h2;exact⟨h1,Below.refl _ _⟩)⟩
   | false=>exact⟨flV 0,errV b,⟨rfl,.inr rfl⟩,delay_no y hy dy b W hW⟩)
 have HE:=qq he;clear hx hy dx hd he;go_enter Tryz.func248,Tryz.ntmps248;go_wp2_with fail;refine(HX.out _ HE.out).mono ?_;rintro e w1 ⟨rfl,hb1⟩;have H1:ErrIs w1 3 b:=HE.out.below hb1;go_wp2_with fail;obtain⟨v,e2,⟨hv,he2⟩,hc⟩:=HY.out w1 H1;refine hc.mono ?_;rintro e w2 ⟨rfl,hb2⟩;have h1:w2.cell? ⟨3,0,none⟩=some (errV b):=H1.below hb2;have B2:=below_then hb1 hb2;go_wp2_with fail;go_region
 all_goals go_wp2
 all_goals go_ret2
 all_goals exact⟨rfl,B2.drew⟩
theorem scNew_time (n q oc:Int) (now lasts:Nat) (ea:Int→Addr) (w:World) (hE:EnvS ea w) (hn:F64 now) (hl:F64 lasts) (hi:idOk n q=true) (hd:fdelay now=false∨fdelay lasts=false):Calls Tryz.prog 177 #[.agg #[n,q],.int .i64 oc,.float .f64 now,.float .f64 lasts] w (Makes (.tuple #[.agg #[.int .i64 0,.int .i64 0,.int .i64 0,.int .i64 0,.float .f64 0],errV (ea 4)]) w):=by
 have HE:=qq hE;have HR:=qq (fun W hW=>idRight_of n q ea W hW);rw[hi] at HR;have HL:=qq (fun W (hW:EnvS ea W)=>later_bad now lasts hn hl hd _ W hW.e.e4);clear hE hn hl hi hd;go_enter Tryz.func177,Tryz.ntmps177;go_wp2_with fail;refine(HR.out _ (HE.out.below (bel_alloc (bel_alloc (Below.refl w.heap.size w) _) _))).mono ?_;rintro e w1 ⟨rfl,hb1⟩
 have K1:=qq (((Blk.fresh _ _ _ (w.heap.size) (by simp)).alloc _).below hb1);have K2:=qq ((Blk.fresh _ _ _ (w.heap.size+1) (by simp)).below hb1);have HB:=qq (below_then (bel_alloc (bel_alloc (Below.refl w.heap.size w) _) _) hb1);have z1:=HB.out.size;clear hb1;obtain⟨lK1,qK1,fK1⟩:=K1.out;obtain⟨lK2,qK2,fK2⟩:=K2.out;go_wp2_with fail;clear qK1 fK1 lK1 qK2 fK2 lK2
 refine(HL.out _ (HE.out.below HB.out)).mono ?_;rintro e w2 ⟨rfl,hb2⟩;have K2:=qq (K2.out.below hb2);have HB:=qq (below_then HB.out hb2);have z2:=HB.out.size;clear hb2;obtain⟨lK2,qK2,fK2⟩:=K2.out;go_wp2_with fail;clear qK2 fK2 lK2;refine reg_start2 (fun w'=>Below w.heap.size w w') (fun w'=>Blk w' _ _) (by kernel_rfl) ((bel_drew HB.out)) (K2.out.drew) ?_;rintro w3 hHeld K2'
 have K2:=qq K2';clear K2';obtain HB':=id hHeld;have HB:=qq HB';clear HB';have z3:=HB.out.size;refine takeM (d:=some 30) 0 rfl rfl hHeld (fun w' _=>by go_simp;(try rfl)) ?_;simp only[puts];refine takeM (d:=some 31) 1 rfl rfl hHeld (fun w' hS'=>by have qA:w'.cell? ⟨3,0,none⟩=some (errV (ea 4)):=HE.out.e.e4.below hS';clear hS';go_simp;(try rfl)) ?_;simp only[puts];refine one_M 2 (by kernel_rfl) ?_
 obtain⟨lK2,qK2,fK2⟩:=K2.out
 refine set_M 2 (((((w3.setCell ⟨w.heap.size+1,0,none⟩ (.int .i64 0)).setCell ⟨w.heap.size+1,1,none⟩ (.int .i64 0)).setCell ⟨w.heap.size+1,2,none⟩ (.int .i64 0)).setCell ⟨w.heap.size+1,3,none⟩ (.int .i64 0)).setCell ⟨w.heap.size+1,4,none⟩ (.float .f64 0)) rfl rfl (by go_simp) (bst (bst (bst (bst (bst HB.out (w.heap.size+1) 0 _) (w.heap.size+1) 1 _) (w.heap.size+1) 2 _) (w.heap.size+1) 3 _) (w.heap.size+1) 4 _) (fun hHeld2=> ?_)
 clear hHeld;have hHeld:=hHeld2;clear hHeld2;clear qK2 fK2 lK2
 (try simp only[puts])
 refine takeM (d:=some 9) 3 rfl rfl hHeld (fun w' _=>by go_simp;(try rfl)) ?_;simp only[puts];refine doneM (by kernel_rfl) ?_ _;clear hHeld;obtain⟨lK2,qK2,fK2⟩:=K2.out;go_wp2_with fail;have hV0:=(sst (sst (sst (sst (sst K2.out 0 (.int .i64 0)) 1 (.int .i64 0)) 2 (.int .i64 0)) 3 (.int .i64 0)) 4 (.float .f64 0))
 have hVq0:=hV0.cell;have hVf0:=hV0.free;refine bodyPost_ret (v:=.tuple #[.agg #[.int .i64 0,.int .i64 0,.int .i64 0,.int .i64 0,.float .f64 0],errV (ea 4)]) (by simp[results,Tryz.results177,go_sem,hVq0,hVf0]) rfl ?_;clear qK2 fK2 lK2;exact⟨rfl,(bst (bst (bst (bst (bst HB.out (w.heap.size+1) 0 _) (w.heap.size+1) 1 _) (w.heap.size+1) 2 _) (w.heap.size+1) 3 _) (w.heap.size+1) 4 _)⟩
theorem scNew_form (n q oc:Int) (now lasts:Nat) (ea:Int→Addr) (w:World) (hE:EnvS ea w) (hn:F64 now) (hl:F64 lasts) (hi:idOk n q=true) (hd:fdelay now=true∧fdelay lasts=true) (ho:¬(oc=1∨oc=2)):Calls Tryz.prog 177 #[.agg #[n,q],.int .i64 oc,.float .f64 now,.float .f64 lasts] w (Makes (.tuple #[.agg #[.int .i64 0,.int .i64 0,.int .i64 0,.int .i64 0,.float .f64 0],errV (ea 4)]) w):=by
 have HE:=qq hE;have HR:=qq (fun W hW=>idRight_of n q ea W hW);rw[hi] at HR;have HL:=qq (fun W=>later_yes now lasts hn hl hd.1 hd.2 W);obtain⟨sum,hs⟩:∃s,s=fsum (fplain now) (fplain lasts):=⟨_,rfl⟩
 rw[←hs] at HL;have HO:=qq (fun W=>isOutcome_of oc W);rw[decide_eq_false ho] at HO;clear hE hn hl hi hd ho hs;go_enter Tryz.func177,Tryz.ntmps177;go_wp2_with fail;refine(HR.out _ (HE.out.below (bel_alloc (bel_alloc (Below.refl w.heap.size w) _) _))).mono ?_;rintro e w1 ⟨rfl,hb1⟩;have K1:=qq (((Blk.fresh _ _ _ (w.heap.size) (by simp)).alloc _).below hb1)
 have K2:=qq ((Blk.fresh _ _ _ (w.heap.size+1) (by simp)).below hb1);have HB:=qq (below_then (bel_alloc (bel_alloc (Below.refl w.heap.size w) _) _) hb1);have z1:=HB.out.size;clear hb1;obtain⟨lK1,qK1,fK1⟩:=K1.out;obtain⟨lK2,qK2,fK2⟩:=K2.out;go_wp2_with fail;clear qK1 fK1 lK1 qK2 fK2 lK2;refine(HL.out _).mono ?_;rintro e w2 ⟨rfl,rfl⟩;obtain⟨lK1,qK1,fK1⟩:=K1.out;obtain⟨lK2,qK2,fK2⟩:=K2.out
 go_wp2_with fail;clear qK1 fK1 lK1 qK2 fK2 lK2;refine(HO.out _).mono ?_;rintro e w3 ⟨rfl,rfl⟩;obtain⟨lK1,qK1,fK1⟩:=K1.out;obtain⟨lK2,qK2,fK2⟩:=K2.out;go_wp2_with fail;clear qK1 fK1 lK1 qK2 fK2 lK2;refine reg_start2 (fun w'=>Below w.heap.size w w') (fun w'=>Blk w' _ _) (by kernel_rfl) ((bel_drew HB.out)) (K2.out.drew) ?_;rintro w4 hHeld K2';have K2:=qq K2';clear K2';obtain HB':=id hHeld
 have HB:=qq HB';clear HB';have z4:=HB.out.size;refine takeM (d:=some 30) 0 rfl rfl hHeld (fun w' _=>by go_simp;(try rfl)) ?_;simp only[puts];refine takeM (d:=some 31) 1 rfl rfl hHeld (fun w' hS'=>by have qA:w'.cell? ⟨3,0,none⟩=some (errV (ea 4)):=HE.out.e.e4.below hS';clear hS';go_simp;(try rfl)) ?_;simp only[puts];refine one_M 2 (by kernel_rfl) ?_;obtain⟨lK2,qK2,fK2⟩:=K2.out
 refine set_M 2 (((((w4.setCell ⟨w.heap.size+1,0,none⟩ (.int .i64 0)).setCell ⟨w.heap.size+1,1,none⟩ (.int .i64 0)).setCell ⟨w.heap.size+1,2,none⟩ (.int .i64 0)).setCell ⟨w.heap.size+1,3,none⟩ (.int .i64 0)).setCell ⟨w.heap.size+1,4,none⟩ (.float .f64 0)) rfl rfl (by go_simp) (bst (bst (bst (bst (bst HB.out (w.heap.size+1) 0 _) (w.heap.size+1) 1 _) (w.heap.size+1) 2 _) (w.heap.size+1) 3 _) (w.heap.size+1) 4 _) (fun hHeld2=> ?_)
 clear hHeld;have hHeld:=hHeld2;clear hHeld2;clear qK2 fK2 lK2
 (try simp only[puts])
 refine takeM (d:=some 9) 3 rfl rfl hHeld (fun w' _=>by go_simp;(try rfl)) ?_;simp only[puts];refine doneM (by kernel_rfl) ?_ _;clear hHeld;obtain⟨lK2,qK2,fK2⟩:=K2.out;go_wp2_with fail;have hV0:=(sst (sst (sst (sst (sst K2.out 0 (.int .i64 0)) 1 (.int .i64 0)) 2 (.int .i64 0)) 3 (.int .i64 0)) 4 (.float .f64 0))
 have hVq0:=hV0.cell;have hVf0:=hV0.free;refine bodyPost_ret (v:=.tuple #[.agg #[.int .i64 0,.int .i64 0,.int .i64 0,.int .i64 0,.float .f64 0],errV (ea 4)]) (by simp[results,Tryz.results177,go_sem,hVq0,hVf0]) rfl ?_;clear qK2 fK2 lK2;exact⟨rfl,(bst (bst (bst (bst (bst HB.out (w.heap.size+1) 0 _) (w.heap.size+1) 1 _) (w.heap.size+1) 2 _) (w.heap.size+1) 3 _) (w.heap.size+1) 4 _)⟩
theorem scNew_yes (n q oc:Int) (now lasts:Nat) (ea:Int→Addr) (w:World) (hE:EnvS ea w) (hn:F64 now) (hl:F64 lasts) (hi:idOk n q=true) (hd:fdelay now=true∧fdelay lasts=true) (ho:oc=1∨oc=2):Calls Tryz.prog 177 #[.agg #[n,q],.int .i64 oc,.float .f64 now,.float .f64 lasts] w (Makes (.tuple #[.agg #[n,q,oc,.int .i64 0,.float .f64 (fsum (fplain now) (fplain lasts))],.nilIface]) w):=by
 have HE:=qq hE;have HR:=qq (fun W hW=>idRight_of n q ea W hW);rw[hi] at HR;have HL:=qq (fun W=>later_yes now lasts hn hl hd.1 hd.2 W);obtain⟨sum,hs⟩:∃s,s=fsum (fplain now) (fplain lasts):=⟨_,rfl⟩
 rw[←hs] at HL;rw[←hs];have HO:=qq (fun W=>isOutcome_of oc W);rw[decide_eq_true ho] at HO;clear hE hn hl hi hd ho hs;go_enter Tryz.func177,Tryz.ntmps177;go_wp2_with fail;refine(HR.out _ (HE.out.below (bel_alloc (bel_alloc (Below.refl w.heap.size w) _) _))).mono ?_;rintro e w1 ⟨rfl,hb1⟩;have K1:=qq (((Blk.fresh _ _ _ (w.heap.size) (by simp)).alloc _).below hb1)
 have K2:=qq ((Blk.fresh _ _ _ (w.heap.size+1) (by simp)).below hb1);have HB:=qq (below_then (bel_alloc (bel_alloc (Below.refl w.heap.size w) _) _) hb1);have z1:=HB.out.size;clear hb1;obtain⟨lK1,qK1,fK1⟩:=K1.out;obtain⟨lK2,qK2,fK2⟩:=K2.out;go_wp2_with fail;clear qK1 fK1 lK1 qK2 fK2 lK2;refine(HL.out _).mono ?_;rintro e w2 ⟨rfl,rfl⟩;obtain⟨lK1,qK1,fK1⟩:=K1.out;obtain⟨lK2,qK2,fK2⟩:=K2.out
 go_wp2_with fail;clear qK1 fK1 lK1 qK2 fK2 lK2;refine(HO.out _).mono ?_;rintro e w3 ⟨rfl,rfl⟩;obtain⟨lK1,qK1,fK1⟩:=K1.out;obtain⟨lK2,qK2,fK2⟩:=K2.out;go_wp2_with fail;have hV0:=(sst (sst (sst (sst (sst K2.out 0 (.int .i64 n)) 1 (.int .i64 q)) 2 (.int .i64 oc)) 3 (.int .i64 0)) 4 (.float .f64 sum))
 have hVq0:=hV0.cell;have hVf0:=hV0.free;refine bodyPost_ret (v:=.tuple #[.agg #[n,q,oc,.int .i64 0,.float .f64 sum],.nilIface]) (by simp[results,Tryz.results177,go_sem,hVq0,hVf0]) rfl ?_;clear qK1 fK1 lK1 qK2 fK2 lK2;exact⟨rfl,(bst (bst (bst (bst (bst HB.out (w.heap.size+1) 0 _) (w.heap.size+1) 1 _) (w.heap.size+1) 2 _) (w.heap.size+1) 3 _) (w.heap.size+1) 4 _)⟩
theorem scChild_deep (cn cq co cd:Int) (cx:Nat) (n q:Int) (ea:Int→Addr) (w:World) (hE:EnvS ea w) (hx:F64 cx) (hc:ctxOk cn cq co cd cx=true) (hi:idOk n q=true) (hd:cd=3):Calls Tryz.prog 183 #[.agg #[cn,cq,co,cd,.float .f64 cx],.agg #[n,q],.int .i64 1] w (Makes (.tuple #[.agg #[.int .i64 0,.int .i64 0,.int .i64 0,.int .i64 0,.float .f64 0],errV (ea 11)]) w):=by
 have HE:=qq hE;have HS:=qq (fun W hW=>scopeRight_of cn cq co cd cx hx ea W hW);rw[hc] at HS;have HR:=qq (fun W hW=>idRight_of n q ea W hW);rw[hi] at HR;have HO:=qq (fun W=>isOutcome_of 1 W);rw[show decide ((1:Int)=1∨(1:Int)=2)=true by decide] at HO;subst hd;clear hE hx hc hi;go_enter Tryz.func183,Tryz.ntmps183;go_wp2_with fail
 refine(HS.out _ (HE.out.below (bel_alloc (bel_alloc (bel_alloc (Below.refl w.heap.size w) _) _) _))).mono ?_;rintro e w1 ⟨rfl,hb1⟩;have K1:=qq ((((Blk.fresh _ _ _ (w.heap.size) (by simp)).alloc _).alloc _).below hb1);have K2:=qq (((Blk.fresh _ _ _ (w.heap.size+1) (by simp)).alloc _).below hb1);have K3:=qq ((Blk.fresh _ _ _ (w.heap.size+1+1) (by simp)).below hb1)
 have HB:=qq (below_then (bel_alloc (bel_alloc (bel_alloc (Below.refl w.heap.size w) _) _) _) hb1);have z1:=HB.out.size;clear hb1;obtain⟨lK1,qK1,fK1⟩:=K1.out;obtain⟨lK2,qK2,fK2⟩:=K2.out;obtain⟨lK3,qK3,fK3⟩:=K3.out;go_wp2_with fail;clear qK1 fK1 lK1 qK2 fK2 lK2 qK3 fK3 lK3;refine(HR.out _ (HE.out.below HB.out)).mono ?_;rintro e w2 ⟨rfl,hb2⟩;have K1:=qq (K1.out.below hb2)
 have K2:=qq (K2.out.below hb2);have K3:=qq (K3.out.below hb2);have HB:=qq (below_then HB.out hb2);have z2:=HB.out.size;clear hb2;obtain⟨lK1,qK1,fK1⟩:=K1.out;obtain⟨lK2,qK2,fK2⟩:=K2.out;obtain⟨lK3,qK3,fK3⟩:=K3.out;go_wp2_with fail;clear qK1 fK1 lK1 qK2 fK2 lK2 qK3 fK3 lK3;refine(HO.out _).mono ?_;rintro e w3 ⟨rfl,rfl⟩;obtain⟨lK1,qK1,fK1⟩:=K1.out;obtain⟨lK2,qK2,fK2⟩:=K2.out
 obtain⟨lK3,qK3,fK3⟩:=K3.out;go_wp2_with fail;clear qK1 fK1 lK1 qK2 fK2 lK2 qK3 fK3 lK3;refine reg_start2 (fun w'=>Below w.heap.size w w') (fun w'=>Blk w' _ _) (by kernel_rfl) ((bel_drew HB.out)) (K3.out.drew) ?_;rintro w4 hHeld K3';have K3:=qq K3';clear K3';obtain HB':=id hHeld;have HB:=qq HB';clear HB';have z4:=HB.out.size
 refine takeM (d:=some 30) 0 rfl rfl hHeld (fun w' _=>by go_simp;(try rfl)) ?_;simp only[puts];refine takeM (d:=some 31) 1 rfl rfl hHeld (fun w' hS'=>by have qA:w'.cell? ⟨10,0,none⟩=some (errV (ea 11)):=HE.out.e.e11.below hS';clear hS';go_simp;(try rfl)) ?_;simp only[puts];refine one_M 2 (by kernel_rfl) ?_;obtain⟨lK3,qK3,fK3⟩:=K3.out
 refine set_M 2 (((((w4.setCell ⟨w.heap.size+1+1,0,none⟩ (.int .i64 0)).setCell ⟨w.heap.size+1+1,1,none⟩ (.int .i64 0)).setCell ⟨w.heap.size+1+1,2,none⟩ (.int .i64 0)).setCell ⟨w.heap.size+1+1,3,none⟩ (.int .i64 0)).setCell ⟨w.heap.size+1+1,4,none⟩ (.float .f64 0)) rfl rfl (by go_simp) (bst (bst (bst (bst (bst HB.out (w.heap.size+1+1) 0 _) (w.heap.size+1+1) 1 _) (w.heap.size+1+1) 2 _) (w.heap.size+1+1) 3 _) (w.heap.size+1+1) 4 _) (fun hHeld2=> ?_)
 clear hHeld;have hHeld:=hHeld2;clear hHeld2;clear qK3 fK3 lK3
 (try simp only[puts])
 refine takeM (d:=some 7) 3 rfl rfl hHeld (fun w' _=>by go_simp;(try rfl)) ?_;simp only[puts];refine doneM (by kernel_rfl) ?_ _;clear hHeld;obtain⟨lK3,qK3,fK3⟩:=K3.out;go_wp2_with fail;have hV0:=(sst (sst (sst (sst (sst K3.out 0 (.int .i64 0)) 1 (.int .i64 0)) 2 (.int .i64 0)) 3 (.int .i64 0)) 4 (.float .f64 0))
 have hVq0:=hV0.cell;have hVf0:=hV0.free;refine bodyPost_ret (v:=.tuple #[.agg #[.int .i64 0,.int .i64 0,.int .i64 0,.int .i64 0,.float .f64 0],errV (ea 11)]) (by simp[results,Tryz.results183,go_sem,hVq0,hVf0]) rfl ?_;clear qK3 fK3 lK3;exact⟨rfl,(bst (bst (bst (bst (bst HB.out (w.heap.size+1+1) 0 _) (w.heap.size+1+1) 1 _) (w.heap.size+1+1) 2 _) (w.heap.size+1+1) 3 _) (w.heap.size+1+1) 4 _)⟩
theorem scChild_yes (cn cq co cd:Int) (cx:Nat) (n q:Int) (ea:Int→Addr) (w:World) (hE:EnvS ea w) (hx:F64 cx) (hc:ctxOk cn cq co cd cx=true) (hi:idOk n q=true) (hd:cd<3):Calls Tryz.prog 183 #[.agg #[cn,cq,co,cd,.float .f64 cx],.agg #[n,q],.int .i64 1] w (Makes (.tuple #[.agg #[n,q,.int .i64 1,.int .i64 ((cd+1)),.float .f64 cx],.nilIface]) w):=by
 have HE:=qq hE;have HS:=qq (fun W hW=>scopeRight_of cn cq co cd cx hx ea W hW);rw[hc] at HS;have HR:=qq (fun W hW=>idRight_of n q ea W hW);rw[hi] at HR;have HO:=qq (fun W=>isOutcome_of 1 W);rw[show decide ((1:Int)=1∨(1:Int)=2)=true by decide] at HO;have d29:(cd==3)=false:=by simpa using(by omega:¬cd=3)
 have hcd:0≤cd:=by unfold ctxOk at hc;simp only[Bool.and_eq_true,decide_eq_true_eq] at hc;omega
 clear hE hx hc hi;go_enter Tryz.func183,Tryz.ntmps183;go_wp2_with fail;refine(HS.out _ (HE.out.below (bel_alloc (bel_alloc (bel_alloc (Below.refl w.heap.size w) _) _) _))).mono ?_;rintro e w1 ⟨rfl,hb1⟩;have K1:=qq ((((Blk.fresh _ _ _ (w.heap.size) (by simp)).alloc _).alloc _).below hb1);have K2:=qq (((Blk.fresh _ _ _ (w.heap.size+1) (by simp)).alloc _).below hb1)
 have K3:=qq ((Blk.fresh _ _ _ (w.heap.size+1+1) (by simp)).below hb1);have HB:=qq (below_then (bel_alloc (bel_alloc (bel_alloc (Below.refl w.heap.size w) _) _) _) hb1);have z1:=HB.out.size;clear hb1;obtain⟨lK1,qK1,fK1⟩:=K1.out;obtain⟨lK2,qK2,fK2⟩:=K2.out;obtain⟨lK3,qK3,fK3⟩:=K3.out;go_wp2_with fail;clear qK1 fK1 lK1 qK2 fK2 lK2 qK3 fK3 lK3;refine(HR.out _ (HE.out.below HB.out)).mono ?_
 rintro e w2 ⟨rfl,hb2⟩;have K1:=qq (K1.out.below hb2);have K2:=qq (K2.out.below hb2);have K3:=qq (K3.out.below hb2);have HB:=qq (below_then HB.out hb2);have z2:=HB.out.size;clear hb2;obtain⟨lK1,qK1,fK1⟩:=K1.out;obtain⟨lK2,qK2,fK2⟩:=K2.out;obtain⟨lK3,qK3,fK3⟩:=K3.out;go_wp2_with fail;clear qK1 fK1 lK1 qK2 fK2 lK2 qK3 fK3 lK3;refine(HO.out _).mono ?_;rintro e w3 ⟨rfl,rfl⟩;obtain⟨lK1,qK1,fK1⟩:=K1.out
 obtain⟨lK2,qK2,fK2⟩:=K2.out;obtain⟨lK3,qK3,fK3⟩:=K3.out;go_wp2_with fail;have hV0:=(sst (sst (sst (sst (sst (ost (ost (ost (ost K3.out w.heap.size 0 (.int .i64 n)) w.heap.size 1 (.int .i64 q)) w.heap.size 2 (.int .i64 1)) w.heap.size 3 (.int .i64 ((cd+1)))) 0 (.int .i64 n)) 1 (.int .i64 q)) 2 (.int .i64 1)) 3 (.int .i64 ((cd+1)))) 4 (.float .f64 cx))
 have hVq0:=hV0.cell;have hVf0:=hV0.free;refine bodyPost_ret (v:=.tuple #[.agg #[n,q,.int .i64 1,.int .i64 ((cd+1)),.float .f64 cx],.nilIface]) (by simp[results,Tryz.results183,go_sem,hVq0,hVf0]) rfl ?_;clear qK1 fK1 lK1 qK2 fK2 lK2 qK3 fK3 lK3
 exact⟨rfl,(bst (bst (bst (bst (bst (bst (bst (bst (bst HB.out w.heap.size 0 _) w.heap.size 1 _) w.heap.size 2 _) w.heap.size 3 _) (w.heap.size+1+1) 0 _) (w.heap.size+1+1) 1 _) (w.heap.size+1+1) 2 _) (w.heap.size+1+1) 3 _) (w.heap.size+1+1) 4 _)⟩
theorem lfull_of (L:SLoc) (S:Sto) (w:World) (h:StoreAt L S w) (hG:StoGood S):Calls Tryz.prog 176 #[.pointer (some ⟨L.sb,0,none⟩)] w (Makes (.bool (lFull S)) w):=by
 have HA:=qq (fun W hW=>acts_of L S W hW hG);have HN:=qq (fun W hW=>next_of L S W hW);have H:=qq h;unfold lFull;obtain⟨n,hn⟩:∃n,n=S.acts.length:=⟨_,rfl⟩
 obtain⟨x,hx⟩:∃x,x=S.next:=⟨_,rfl⟩
 rw[←hn,←hx];rw[←hx] at HN;by_cases h8:8≤n
 · have d1:decide ((n:Int)≥8)=true:=decide_eq_true (by omega);have d2:decide ((8:Int)≤(n:Int))=true:=decide_eq_true (by omega);rw[decide_eq_true (Or.inl h8)];clear h hx;go_enter Tryz.func176,Tryz.ntmps176;go_wp2_with fail;refine(HA.out _ H.out).mono ?_;rintro e w1 ⟨v,vs,rfl,ha,hb1⟩;obtain⟨a,cap,rfl⟩:=row_slice ha.row;rw[←hn];clear ha hn;go_wp2_with fail;go_ret;exact⟨rfl,hb1⟩
 · have d1:decide ((n:Int)≥8)=false:=decide_eq_false (by omega);have d2:decide ((8:Int)≤(n:Int))=false:=decide_eq_false (by omega);rw[show decide (8≤n∨1000000≤x)=decide (x≥1000000) by by_cases h9:x≥1000000<;>simp[h8,h9]];clear h hx;go_enter Tryz.func176,Tryz.ntmps176;go_wp2_with fail;refine(HA.out _ H.out).mono ?_;rintro e w1 ⟨v,vs,rfl,ha,hb1⟩;obtain⟨a,cap,rfl⟩:=row_slice ha.row;rw[←hn]
   clear ha hn;go_wp2_with fail;refine(HN.out _ (H.out.below hb1)).mono ?_;rintro e w2 ⟨rfl,rfl⟩;go_wp2_with fail;go_ret;exact⟨rfl,hb1⟩
theorem lopened_of (cn cq co cd:Int) (cx:Nat) (pa:Int) (w:World):Calls Tryz.prog 178 #[.agg #[cn,cq,co,cd,.float .f64 cx],.int .i64 pa] w (ResR ⟨[fOpn ⟨cn,cq,co,cd,cx⟩ pa],[],0⟩ w):=by
 go_enter Tryz.func178,Tryz.ntmps178;go_wp2_with fail;refine bodyPost_ret (v:=.agg #[.slice (some ⟨w.heap.size+1+1+1,0,none⟩) 1 1,.slice none 0 0,.int .i64 0]) (by simp[results,Tryz.results178,go_sem]) rfl ?_
 exact⟨some ⟨w.heap.size+1+1+1,0,none⟩,1,none,0,rfl,⟨read_fone (f:=fOpn ⟨cn,cq,co,cd,cx⟩ pa) (Blk.fresh ((((w.alloc (.cells #[cn,cq,co,cd,.float .f64 cx] 48)).alloc (.cells #[.slice (some ⟨w.heap.size+1+1+1,0,none⟩) 1 1,.slice none 0 0,.int .i64 0] 87)).alloc (.cells #[.int .i64 1,cn,cq,.int .i64 0,.int .i64 0,.int .i64 0,.int .i64 0,co,cd,pa,.int .i64 0,.int .i64 0,.int .i64 0,.float .f64 cx] 39))) #[.int .i64 1,.int .i64 cn,.int .i64 cq,.int .i64 0,.int .i64 0,.int .i64 0,.int .i64 0,.int .i64 co,.int .i64 cd,.int .i64 pa,.int .i64 0,.int .i64 0,.int .i64 0,.float .f64 cx] 39 (w.heap.size+1+1+1) (by simp)),read_mnil,one_block (by first | omega | (simp;done) | (simp;omega)),no_block⟩,(bel_alloc (bel_alloc (bel_alloc (bel_alloc (Below.refl w.heap.size w) _) _) _) _)⟩
theorem schild_some {S:Sto} {pa:Int} {i:Nat} (h:schild S pa=some i):∃a,S.acts[i]? =some a∧a∈S.acts:=by
 unfold schild at h;obtain⟨h1,_⟩:=List.findIdx?_eq_some_iff_getElem.1 h;exact⟨S.acts[i],List.getElem?_eq_getElem h1,List.getElem_mem h1⟩
def ChildOut (b:Bool) (w:World) (e:Ending) (w':World):Prop:=∃(an aq oc dp:Int) (ex:Nat) (pa de:Int) (va:Option Addr) (vn vc:Nat),e=.returned (.tuple #[.agg #[an,aq,oc,dp,.float .f64 ex,pa,de,.slice va vn vc],.bool b])∧Below w.heap.size w w'
theorem Child_out (L:SLoc) (S:Sto) (pt:Int) (w:World) (h:StoreAt L S w) (hG:StoGood S) (hp:¬(0≤pt∧pt<(S.parts.length:Int))):Calls Tryz.prog 27 #[.pointer (some ⟨L.sb,0,none⟩),.int .i64 pt] w (ChildOut false w):=by
 have H:=qq h;have HH:=qq (fun W hW=>has_of L S pt W hW);rw[decide_eq_false hp] at HH;clear h hG hp;go_enter Tryz.func27,Tryz.ntmps27;go_wp2_with fail;refine(HH.out _ (H.out.below (bel_alloc (Below.refl w.heap.size w) _))).mono ?_;rintro e w1 ⟨rfl,rfl⟩;go_wp2_with fail
 refine bodyPost_ret (v:=.tuple #[.agg #[.int .i64 0,.int .i64 0,.int .i64 0,.int .i64 0,.float .f64 0,.int .i64 0,.int .i64 0,.slice none 0 0],.bool false]) (by simp[results,Tryz.results27,go_sem]) rfl ?_;exact⟨0,0,0,0,0,0,0,none,0,0,rfl,(bel_alloc (Below.refl w.heap.size w) _)⟩
theorem Child_no (L:SLoc) (S:Sto) (pt:Int) (w:World) (h:StoreAt L S w) (hG:StoGood S) (hp:0≤pt∧pt<(S.parts.length:Int)) (hc:schild S (pt+1)=none):Calls Tryz.prog 27 #[.pointer (some ⟨L.sb,0,none⟩),.int .i64 pt] w (ChildOut false w):=by
 have H:=qq h;have HH:=qq (fun W hW=>has_of L S pt W hW);rw[decide_eq_true hp] at HH;have HC:=qq (fun W hW=>child_of L S (pt+1) W hW hG);rw[if_neg (by omega)] at HC;rw[hc] at HC;dsimp only[aptr,Option.bind] at HC;have h8:=hG.parts;have HGN:=qq (fun W=>got_no W);dsimp only[act0V] at HGN;clear h hG hc;go_enter Tryz.func27,Tryz.ntmps27;go_wp2_with fail
 refine(HH.out _ (H.out.below (bel_alloc (Below.refl w.heap.size w) _))).mono ?_;rintro e w1 ⟨rfl,rfl⟩;go_wp2_with fail;refine(HC.out _ (H.out.below (bel_alloc (Below.refl w.heap.size w) _))).mono ?_;rintro e w2 ⟨rfl,hb2⟩;have K1:=qq ((Blk.fresh _ _ _ (w.heap.size) (by simp)).below hb2);have HB:=qq (below_then (bel_alloc (Below.refl w.heap.size w) _) hb2);have z2:=HB.out.size;clear hb2
 obtain⟨lK1,qK1,fK1⟩:=K1.out;go_wp2_with fail;clear qK1 fK1 lK1;refine(HGN.out _).mono ?_;rintro e w3 ⟨rfl,hb3⟩;have K1:=qq (K1.out.below hb3);have HB:=qq (below_then HB.out hb3);have z3:=HB.out.size;clear hb3;obtain⟨lK1,qK1,fK1⟩:=K1.out;go_wp2_with fail
 have hV0:=(sst (sst (sst (sst (sst (sst (sst (sst K1.out 0 (.int .i64 0)) 1 (.int .i64 0)) 2 (.int .i64 0)) 3 (.int .i64 0)) 4 (.float .f64 0)) 5 (.int .i64 0)) 6 (.int .i64 0)) 7 (.slice none 0 0))
 have hVq0:=hV0.cell;have hVf0:=hV0.free;refine bodyPost_ret (v:=.tuple #[.agg #[.int .i64 0,.int .i64 0,.int .i64 0,.int .i64 0,.float .f64 0,.int .i64 0,.int .i64 0,.slice none 0 0],.bool false]) (by simp[results,Tryz.results27,go_sem,hVq0,hVf0]) rfl ?_;clear qK1 fK1 lK1
 exact⟨0,0,0,0,0,0,0,none,0,0,rfl,(bst (bst (bst (bst (bst (bst (bst (bst HB.out w.heap.size 0 _) w.heap.size 1 _) w.heap.size 2 _) w.heap.size 3 _) w.heap.size 4 _) w.heap.size 5 _) w.heap.size 6 _) w.heap.size 7 _)⟩
theorem Child_yes (L:SLoc) (S:Sto) (pt:Int) (w:World) (h:StoreAt L S w) (hG:StoGood S) (hp:0≤pt∧pt<(S.parts.length:Int)) (i:Nat) (hc:schild S (pt+1)=some i):Calls Tryz.prog 27 #[.pointer (some ⟨L.sb,0,none⟩),.int .i64 pt] w (ChildOut true w):=by
 have H:=qq h;have HH:=qq (fun W hW=>has_of L S pt W hW);rw[decide_eq_true hp] at HH;have HC:=qq (fun W hW=>child_of L S (pt+1) W hW hG);rw[if_neg (by omega)] at HC;rw[hc] at HC;obtain⟨a,ha,hm⟩:=schild_some hc;have hil:=(List.getElem?_eq_some_iff.1 ha).1;obtain⟨x,hx⟩:∃x,L.ab[i]? =some x:=⟨_,List.getElem?_eq_getElem (by rw[h.len];exact hil)⟩
 have hap:aptr L (some i)=.pointer (some ⟨x.1,0,none⟩):=by simp[aptr,hx]
 rw[hap] at HC;have HGY:=qq (fun W (hW:StoreAt L S W)=>got_yes x.1 a x.2 W (hW.act i x a hx ha).1 (hW.act i x a hx ha).2 (hG.act a hm).len);obtain⟨xb,xv⟩:=x;obtain⟨an,aq,oc,dp,ex,pa,de,rs⟩:=a;unfold ActOut at HGY;dsimp only[actC] at*;obtain⟨vn,hvn⟩:∃n,n=rs.length:=⟨_,rfl⟩
 rw[←hvn] at HGY;have h8:=hG.parts;clear h hG hc ha hm hil hx hap hvn;go_enter Tryz.func27,Tryz.ntmps27;go_wp2_with fail;refine(HH.out _ (H.out.below (bel_alloc (Below.refl w.heap.size w) _))).mono ?_;rintro e w1 ⟨rfl,rfl⟩;go_wp2_with fail;refine(HC.out _ (H.out.below (bel_alloc (Below.refl w.heap.size w) _))).mono ?_;rintro e w2 ⟨rfl,hb2⟩
 have K1:=qq ((Blk.fresh _ _ _ (w.heap.size) (by simp)).below hb2);have HB:=qq (below_then (bel_alloc (Below.refl w.heap.size w) _) hb2);have z2:=HB.out.size;clear hb2;obtain⟨lK1,qK1,fK1⟩:=K1.out;go_wp2_with fail;clear qK1 fK1 lK1;refine(HGY.out _ (H.out.below HB.out)).mono ?_;rintro e w3 ⟨v',rfl,ho,hb3⟩;obtain⟨va,vc,rfl,_,_⟩:=reg_row ho;clear ho;have K1:=qq (K1.out.below hb3)
 have HB:=qq (below_then HB.out hb3);have z3:=HB.out.size;clear hb3;obtain⟨lK1,qK1,fK1⟩:=K1.out;go_wp2_with fail;have hV0:=(sst (sst (sst (sst (sst (sst (sst (sst K1.out 0 (.int .i64 an)) 1 (.int .i64 aq)) 2 (.int .i64 oc)) 3 (.int .i64 dp)) 4 (.float .f64 ex)) 5 (.int .i64 pa)) 6 (.int .i64 de)) 7 (.slice va vn vc))
 have hVq0:=hV0.cell;have hVf0:=hV0.free;refine bodyPost_ret (v:=.tuple #[.agg #[an,aq,oc,dp,.float .f64 ex,pa,de,.slice va vn vc],.bool true]) (by simp[results,Tryz.results27,go_sem,hVq0,hVf0]) rfl ?_;clear qK1 fK1 lK1
 exact⟨an,aq,oc,dp,ex,pa,de,va,vn,vc,rfl,(bst (bst (bst (bst (bst (bst (bst (bst HB.out w.heap.size 0 _) w.heap.size 1 _) w.heap.size 2 _) w.heap.size 3 _) w.heap.size 4 _) w.heap.size 5 _) w.heap.size 6 _) w.heap.size 7 _)⟩
theorem rnew_form (n q oc:Int) (now lasts:Nat) (w:World) (hn:F64 now) (hl:F64 lasts) (hi:idOk n q=true) (ho:¬(oc=1∨oc=2)):Calls Tryz.prog 180 #[.agg #[n,q],.int .i64 oc,.float .f64 now,.float .f64 lasts] w (Makes (.tuple #[.agg #[.int .i64 0,.int .i64 0,.int .i64 0,.int .i64 0,.float .f64 0],.int .i64 4]) w):=by
 have HR:=qq (fun W=>rright05_of n q W);rw[hi] at HR;have h1:(oc !=1)=true:=by simpa using fun h=>ho (.inl h)
 have h2:(oc !=2)=true:=by simpa using fun h=>ho (.inr h)
 clear hn hl hi ho;go_enter Tryz.func180,Tryz.ntmps180;go_wp2_with fail;refine(HR.out _).mono ?_;rintro e w1 ⟨rfl,hb1⟩;have K1:=qq (((Blk.fresh _ _ _ (w.heap.size) (by simp)).alloc _).below hb1);have K2:=qq ((Blk.fresh _ _ _ (w.heap.size+1) (by simp)).below hb1);have HB:=qq (below_then (bel_alloc (bel_alloc (Below.refl w.heap.size w) _) _) hb1);have z1:=HB.out.size;clear hb1
 obtain⟨lK1,qK1,fK1⟩:=K1.out;obtain⟨lK2,qK2,fK2⟩:=K2.out;go_wp2_with fail;have hV0:=(sst (sst (sst (sst (sst K2.out 0 (.int .i64 0)) 1 (.int .i64 0)) 2 (.int .i64 0)) 3 (.int .i64 0)) 4 (.float .f64 0))
 have hVq0:=hV0.cell;have hVf0:=hV0.free;refine bodyPost_ret (v:=.tuple #[.agg #[.int .i64 0,.int .i64 0,.int .i64 0,.int .i64 0,.float .f64 0],.int .i64 4]) (by simp[results,Tryz.results180,go_sem,hVq0,hVf0]) rfl ?_;clear qK1 fK1 lK1 qK2 fK2 lK2;exact⟨rfl,(bst (bst (bst (bst (bst HB.out (w.heap.size+1) 0 _) (w.heap.size+1) 1 _) (w.heap.size+1) 2 _) (w.heap.size+1) 3 _) (w.heap.size+1) 4 _)⟩
theorem rnew_now (n q oc:Int) (now lasts:Nat) (w:World) (hn:F64 now) (hl:F64 lasts) (hi:idOk n q=true) (ho:oc=1∨oc=2) (hd:fdelay now=false):Calls Tryz.prog 180 #[.agg #[n,q],.int .i64 oc,.float .f64 now,.float .f64 lasts] w (Makes (.tuple #[.agg #[.int .i64 0,.int .i64 0,.int .i64 0,.int .i64 0,.float .f64 0],.int .i64 4]) w):=by
 have h15:(oc !=1)=false∨(oc !=1)=true∧(oc !=2)=false:=by
  rcases ho with rfl | rfl
  · exact .inl (by simp)
  · exact .inr ⟨by simp,by simp⟩
 have HR:=qq (fun W=>rright05_of n q W);rw[hi] at HR;have HD1:=qq (fun W=>rdelay_of now hn W);have HD2:=qq (fun W=>rdelay_of lasts hl W);rw[hd] at HD1;clear hn hl hi hd ho;rcases h15 with e15 | ⟨e15,e18⟩
 all_goals
  go_enter Tryz.func180,Tryz.ntmps180;go_wp2_with fail;refine(HR.out _).mono ?_;rintro e w1 ⟨rfl,hb1⟩;have K1:=qq (((Blk.fresh _ _ _ (w.heap.size) (by simp)).alloc _).below hb1);have K2:=qq ((Blk.fresh _ _ _ (w.heap.size+1) (by simp)).below hb1);have HB:=qq (below_then (bel_alloc (bel_alloc (Below.refl w.heap.size w) _) _) hb1);have z1:=HB.out.size;clear hb1;obtain⟨lK1,qK1,fK1⟩:=K1.out
  obtain⟨lK2,qK2,fK2⟩:=K2.out;go_wp2_with fail;clear qK1 fK1 lK1 qK2 fK2 lK2;refine(HD1.out _).mono ?_;rintro e w2 ⟨rfl,rfl⟩;obtain⟨lK1,qK1,fK1⟩:=K1.out;obtain⟨lK2,qK2,fK2⟩:=K2.out;go_wp2_with fail;have hV0:=(sst (sst (sst (sst (sst K2.out 0 (.int .i64 0)) 1 (.int .i64 0)) 2 (.int .i64 0)) 3 (.int .i64 0)) 4 (.float .f64 0))
  have hVq0:=hV0.cell;have hVf0:=hV0.free;refine bodyPost_ret (v:=.tuple #[.agg #[.int .i64 0,.int .i64 0,.int .i64 0,.int .i64 0,.float .f64 0],.int .i64 4]) (by simp[results,Tryz.results180,go_sem,hVq0,hVf0]) rfl ?_;clear qK1 fK1 lK1 qK2 fK2 lK2;exact⟨rfl,(bst (bst (bst (bst (bst HB.out (w.heap.size+1) 0 _) (w.heap.size+1) 1 _) (w.heap.size+1) 2 _) (w.heap.size+1) 3 _) (w.heap.size+1) 4 _)⟩
theorem rnew_lasts (n q oc:Int) (now lasts:Nat) (w:World) (hn:F64 now) (hl:F64 lasts) (hi:idOk n q=true) (ho:oc=1∨oc=2) (hd:fdelay now=true) (he:fdelay lasts=false):Calls Tryz.prog 180 #[.agg #[n,q],.int .i64 oc,.float .f64 now,.float .f64 lasts] w (Makes (.tuple #[.agg #[.int .i64 0,.int .i64 0,.int .i64 0,.int .i64 0,.float .f64 0],.int .i64 4]) w):=by
 have h15:(oc !=1)=false∨(oc !=1)=true∧(oc !=2)=false:=by
  rcases ho with rfl | rfl
  · exact .inl (by simp)
  · exact .inr ⟨by simp,by simp⟩
 have HR:=qq (fun W=>rright05_of n q W);rw[hi] at HR;have HD1:=qq (fun W=>rdelay_of now hn W);have HD2:=qq (fun W=>rdelay_of lasts hl W);rw[hd] at HD1;rw[he] at HD2;clear hn hl hi hd he ho;rcases h15 with e15 | ⟨e15,e18⟩
 all_goals
  go_enter Tryz.func180,Tryz.ntmps180;go_wp2_with fail;refine(HR.out _).mono ?_;rintro e w1 ⟨rfl,hb1⟩;have K1:=qq (((Blk.fresh _ _ _ (w.heap.size) (by simp)).alloc _).below hb1);have K2:=qq ((Blk.fresh _ _ _ (w.heap.size+1) (by simp)).below hb1);have HB:=qq (below_then (bel_alloc (bel_alloc (Below.refl w.heap.size w) _) _) hb1);have z1:=HB.out.size;clear hb1;obtain⟨lK1,qK1,fK1⟩:=K1.out
  obtain⟨lK2,qK2,fK2⟩:=K2.out;go_wp2_with fail;clear qK1 fK1 lK1 qK2 fK2 lK2;refine(HD1.out _).mono ?_;rintro e w2 ⟨rfl,rfl⟩;obtain⟨lK1,qK1,fK1⟩:=K1.out;obtain⟨lK2,qK2,fK2⟩:=K2.out;go_wp2_with fail;clear qK1 fK1 lK1 qK2 fK2 lK2;refine(HD2.out _).mono ?_;rintro e w3 ⟨rfl,rfl⟩;obtain⟨lK1,qK1,fK1⟩:=K1.out;obtain⟨lK2,qK2,fK2⟩:=K2.out;go_wp2_with fail
  have hV0:=(sst (sst (sst (sst (sst K2.out 0 (.int .i64 0)) 1 (.int .i64 0)) 2 (.int .i64 0)) 3 (.int .i64 0)) 4 (.float .f64 0))
  have hVq0:=hV0.cell;have hVf0:=hV0.free;refine bodyPost_ret (v:=.tuple #[.agg #[.int .i64 0,.int .i64 0,.int .i64 0,.int .i64 0,.float .f64 0],.int .i64 4]) (by simp[results,Tryz.results180,go_sem,hVq0,hVf0]) rfl ?_;clear qK1 fK1 lK1 qK2 fK2 lK2;exact⟨rfl,(bst (bst (bst (bst (bst HB.out (w.heap.size+1) 0 _) (w.heap.size+1) 1 _) (w.heap.size+1) 2 _) (w.heap.size+1) 3 _) (w.heap.size+1) 4 _)⟩
theorem rnew_yes (n q oc:Int) (now lasts:Nat) (w:World) (hn:F64 now) (hl:F64 lasts) (hi:idOk n q=true) (ho:oc=1∨oc=2) (hd:fdelay now=true) (he:fdelay lasts=true):Calls Tryz.prog 180 #[.agg #[n,q],.int .i64 oc,.float .f64 now,.float .f64 lasts] w (Makes (.tuple #[.agg #[n,q,oc,.int .i64 0,.float .f64 (fsum (fplain now) (fplain lasts))],.int .i64 0]) w):=by
 have h15:(oc !=1)=false∨(oc !=1)=true∧(oc !=2)=false:=by
  rcases ho with rfl | rfl
  · exact .inl (by simp)
  · exact .inr ⟨by simp,by simp⟩
 have HR:=qq (fun W=>rright05_of n q W);rw[hi] at HR;have HD1:=qq (fun W=>rdelay_of now hn W);have HD2:=qq (fun W=>rdelay_of lasts hl W);rw[hd] at HD1;rw[he] at HD2;have hs:=fun(w:World)=>run_float_arith (P:=Tryz.prog) w .add 37 .f64 _ _ _ (fsum_some _ _ (plain_le now hd) (plain_le lasts he)).1
 have HP1:=qq (fun W=>rplain_of now hn W);have HP2:=qq (fun W=>rplain_of lasts hl W);obtain⟨sum,hsum⟩:∃s,s=fsum (fplain now) (fplain lasts):=⟨_,rfl⟩
 rw[←hsum] at hs⊢;obtain⟨p1,hp1⟩:∃s,s=fplain now:=⟨_,rfl⟩
 obtain⟨p2,hp2⟩:∃s,s=fplain lasts:=⟨_,rfl⟩
 rw[←hp1] at HP1 hs;rw[←hp2] at HP2 hs;clear hn hl hi hd he ho hsum hp1 hp2;rcases h15 with e15 | ⟨e15,e18⟩
 all_goals
  go_enter Tryz.func180,Tryz.ntmps180;go_wp2_with fail;refine(HR.out _).mono ?_;rintro e w1 ⟨rfl,hb1⟩;have K1:=qq (((Blk.fresh _ _ _ (w.heap.size) (by simp)).alloc _).below hb1);have K2:=qq ((Blk.fresh _ _ _ (w.heap.size+1) (by simp)).below hb1);have HB:=qq (below_then (bel_alloc (bel_alloc (Below.refl w.heap.size w) _) _) hb1);have z1:=HB.out.size;clear hb1;obtain⟨lK1,qK1,fK1⟩:=K1.out
  obtain⟨lK2,qK2,fK2⟩:=K2.out;go_wp2_with fail;clear qK1 fK1 lK1 qK2 fK2 lK2;refine(HD1.out _).mono ?_;rintro e w2 ⟨rfl,rfl⟩;obtain⟨lK1,qK1,fK1⟩:=K1.out;obtain⟨lK2,qK2,fK2⟩:=K2.out;go_wp2_with fail;clear qK1 fK1 lK1 qK2 fK2 lK2;refine(HD2.out _).mono ?_;rintro e w3 ⟨rfl,rfl⟩;obtain⟨lK1,qK1,fK1⟩:=K1.out;obtain⟨lK2,qK2,fK2⟩:=K2.out;go_wp2_with fail;clear qK1 fK1 lK1 qK2 fK2 lK2
  refine reg_start2 (fun w'=>Blk w' _ _∧Below w.heap.size w w') (fun w'=>Blk w' _ _) (by kernel_rfl) ⟨K1.out.drew,(bel_drew HB.out)⟩ (K2.out.drew) ?_;rintro w4 hHeld K2';have K2:=qq K2';clear K2';obtain⟨K1',HB'⟩:=id hHeld;have K1:=qq K1';have HB:=qq HB';clear K1' HB';have z4:=HB.out.size;refine takeM (d:=some 31) 0 rfl rfl hHeld (fun w' hS'=>by have qA:=hS'.1.cell;clear hS';go_simp;(try rfl)) ?_
  simp only[puts];refine takeM (d:=some 32) 1 rfl rfl hHeld (fun w' _=>by go_simp;(try rfl)) ?_;simp only[puts];refine takeM (d:=some 33) 2 rfl rfl hHeld (fun w' _=>by go_simp;(try rfl)) ?_;simp only[puts];refine takeM (d:=some 35) 4 rfl rfl hHeld (fun w' _=>by go_simp;(try rfl)) ?_;simp only[puts];refine one_M 3 (by kernel_rfl) ?_
  refine wpOp_call (d:=some 34) 3 225 _ _ [.float .f64 now] rfl rfl rfl (enters_of Tryz.func225 (by kernel_rfl) rfl) (by rfl) (by rfl) ?_;refine(HP1.out _).mono ?_;rintro e w5 ⟨rfl,rfl⟩;refine ret_S hHeld (fun hHeld=> ?_);simp only[puts];refine one_M 5 (by kernel_rfl) ?_
  refine wpOp_call (d:=some 36) 5 225 _ _ [.float .f64 lasts] rfl rfl rfl (enters_of Tryz.func225 (by kernel_rfl) rfl) (by rfl) (by rfl) ?_;refine(HP2.out _).mono ?_;rintro e w6 ⟨rfl,rfl⟩;refine ret_S hHeld (fun hHeld=> ?_);simp only[puts];refine takeM (d:=some 37) 6 rfl rfl hHeld (fun w' _=>by go_simp;(try rfl)) ?_;simp only[puts]
  refine takeM (d:=some 38) 7 rfl rfl hHeld (fun w' _=>by go_simp;(try rfl)) ?_;simp only[puts];refine one_M 8 (by kernel_rfl) ?_;obtain⟨lK1,qK1,fK1⟩:=K1.out;obtain⟨lK2,qK2,fK2⟩:=K2.out
  refine set_M 8 (((((w4.setCell ⟨w.heap.size+1,0,none⟩ (.int .i64 n)).setCell ⟨w.heap.size+1,1,none⟩ (.int .i64 q)).setCell ⟨w.heap.size+1,2,none⟩ (.int .i64 oc)).setCell ⟨w.heap.size+1,3,none⟩ (.int .i64 0)).setCell ⟨w.heap.size+1,4,none⟩ (.float .f64 sum)) rfl rfl (by go_simp) ⟨(ost (ost (ost (ost (ost K1.out (w.heap.size+1) 0 _) (w.heap.size+1) 1 _) (w.heap.size+1) 2 _) (w.heap.size+1) 3 _) (w.heap.size+1) 4 _),(bst (bst (bst (bst (bst HB.out (w.heap.size+1) 0 _) (w.heap.size+1) 1 _) (w.heap.size+1) 2 _) (w.heap.size+1) 3 _) (w.heap.size+1) 4 _)⟩ (fun hHeld2=> ?_)
  clear hHeld;have hHeld:=hHeld2;clear hHeld2;clear qK1 fK1 lK1 qK2 fK2 lK2
  (try simp only[puts])
  refine takeM (d:=some 9) 9 rfl rfl hHeld (fun w' _=>by go_simp;(try rfl)) ?_;simp only[puts];refine doneM (by kernel_rfl) ?_ _;clear hHeld;obtain⟨lK1,qK1,fK1⟩:=K1.out;obtain⟨lK2,qK2,fK2⟩:=K2.out;go_wp2_with fail;have hV0:=(sst (sst (sst (sst (sst K2.out 0 (.int .i64 n)) 1 (.int .i64 q)) 2 (.int .i64 oc)) 3 (.int .i64 0)) 4 (.float .f64 sum))
  have hVq0:=hV0.cell;have hVf0:=hV0.free;refine bodyPost_ret (v:=.tuple #[.agg #[n,q,oc,.int .i64 0,.float .f64 sum],.int .i64 0]) (by simp[results,Tryz.results180,go_sem,hVq0,hVf0]) rfl ?_;clear qK1 fK1 lK1 qK2 fK2 lK2;exact⟨rfl,(bst (bst (bst (bst (bst HB.out (w.heap.size+1) 0 _) (w.heap.size+1) 1 _) (w.heap.size+1) 2 _) (w.heap.size+1) 3 _) (w.heap.size+1) 4 _)⟩
theorem rchild_deep (cn cq co cd:Int) (cx:Nat) (n q:Int) (w:World) (hx:F64 cx) (hc:ctxOk cn cq co cd cx=true) (hi:idOk n q=true) (hd:2<cd):Calls Tryz.prog 184 #[.agg #[cn,cq,co,cd,.float .f64 cx],.agg #[n,q],.int .i64 1] w (Makes (.tuple #[.agg #[.int .i64 0,.int .i64 0,.int .i64 0,.int .i64 0,.float .f64 0],.int .i64 11]) w):=by
 have HG:=qq (fun W=>rright09_of cn cq co cd cx hx W);rw[hc] at HG;have HR:=qq (fun W=>rright05_of n q W);rw[hi] at HR;have d25:decide (cd>2)=true:=decide_eq_true hd;have d25':decide (2<cd)=true:=decide_eq_true hd;clear hx hc hi;go_enter Tryz.func184,Tryz.ntmps184;go_wp2_with fail;refine(HG.out _).mono ?_;rintro e w1 ⟨rfl,hb1⟩
 have K1:=qq ((((Blk.fresh _ _ _ (w.heap.size) (by simp)).alloc _).alloc _).below hb1);have K2:=qq (((Blk.fresh _ _ _ (w.heap.size+1) (by simp)).alloc _).below hb1);have K3:=qq ((Blk.fresh _ _ _ (w.heap.size+1+1) (by simp)).below hb1);have HB:=qq (below_then (bel_alloc (bel_alloc (bel_alloc (Below.refl w.heap.size w) _) _) _) hb1);have z1:=HB.out.size;clear hb1;obtain⟨lK1,qK1,fK1⟩:=K1.out
 obtain⟨lK2,qK2,fK2⟩:=K2.out;obtain⟨lK3,qK3,fK3⟩:=K3.out;go_wp2_with fail;clear qK1 fK1 lK1 qK2 fK2 lK2 qK3 fK3 lK3;refine(HR.out _).mono ?_;rintro e w2 ⟨rfl,hb2⟩;have K1:=qq (K1.out.below hb2);have K2:=qq (K2.out.below hb2);have K3:=qq (K3.out.below hb2);have HB:=qq (below_then HB.out hb2);have z2:=HB.out.size;clear hb2;obtain⟨lK1,qK1,fK1⟩:=K1.out;obtain⟨lK2,qK2,fK2⟩:=K2.out
 obtain⟨lK3,qK3,fK3⟩:=K3.out;go_wp2_with fail;have hV0:=(sst (sst (sst (sst (sst K3.out 0 (.int .i64 0)) 1 (.int .i64 0)) 2 (.int .i64 0)) 3 (.int .i64 0)) 4 (.float .f64 0))
 have hVq0:=hV0.cell;have hVf0:=hV0.free;refine bodyPost_ret (v:=.tuple #[.agg #[.int .i64 0,.int .i64 0,.int .i64 0,.int .i64 0,.float .f64 0],.int .i64 11]) (by simp[results,Tryz.results184,go_sem,hVq0,hVf0]) rfl ?_;clear qK1 fK1 lK1 qK2 fK2 lK2 qK3 fK3 lK3
 exact⟨rfl,(bst (bst (bst (bst (bst HB.out (w.heap.size+1+1) 0 _) (w.heap.size+1+1) 1 _) (w.heap.size+1+1) 2 _) (w.heap.size+1+1) 3 _) (w.heap.size+1+1) 4 _)⟩
theorem rchild_yes (cn cq co cd:Int) (cx:Nat) (n q:Int) (w:World) (hx:F64 cx) (hc:ctxOk cn cq co cd cx=true) (hi:idOk n q=true) (hd:¬2<cd):Calls Tryz.prog 184 #[.agg #[cn,cq,co,cd,.float .f64 cx],.agg #[n,q],.int .i64 1] w (Makes (.tuple #[.agg #[n,q,.int .i64 1,.int .i64 ((cd+1)),.float .f64 cx],.int .i64 0]) w):=by
 have HG:=qq (fun W=>rright09_of cn cq co cd cx hx W);rw[hc] at HG;have HR:=qq (fun W=>rright05_of n q W);rw[hi] at HR;have d25:decide (cd>2)=false:=decide_eq_false hd;have d25':decide (2<cd)=false:=decide_eq_false hd;have hcd:0≤cd:=by unfold ctxOk at hc;simp only[Bool.and_eq_true,decide_eq_true_eq] at hc;omega
 clear hx hc hi;go_enter Tryz.func184,Tryz.ntmps184;go_wp2_with fail;refine(HG.out _).mono ?_;rintro e w1 ⟨rfl,hb1⟩;have K1:=qq ((((Blk.fresh _ _ _ (w.heap.size) (by simp)).alloc _).alloc _).below hb1);have K2:=qq (((Blk.fresh _ _ _ (w.heap.size+1) (by simp)).alloc _).below hb1);have K3:=qq ((Blk.fresh _ _ _ (w.heap.size+1+1) (by simp)).below hb1)
 have HB:=qq (below_then (bel_alloc (bel_alloc (bel_alloc (Below.refl w.heap.size w) _) _) _) hb1);have z1:=HB.out.size;clear hb1;obtain⟨lK1,qK1,fK1⟩:=K1.out;obtain⟨lK2,qK2,fK2⟩:=K2.out;obtain⟨lK3,qK3,fK3⟩:=K3.out;go_wp2_with fail;clear qK1 fK1 lK1 qK2 fK2 lK2 qK3 fK3 lK3;refine(HR.out _).mono ?_;rintro e w2 ⟨rfl,hb2⟩;have K1:=qq (K1.out.below hb2);have K2:=qq (K2.out.below hb2)
 have K3:=qq (K3.out.below hb2);have HB:=qq (below_then HB.out hb2);have z2:=HB.out.size;clear hb2;obtain⟨lK1,qK1,fK1⟩:=K1.out;obtain⟨lK2,qK2,fK2⟩:=K2.out;obtain⟨lK3,qK3,fK3⟩:=K3.out;go_wp2_with fail;have hV0:=(sst (sst (sst (sst (sst K3.out 0 (.int .i64 n)) 1 (.int .i64 q)) 2 (.int .i64 1)) 3 (.int .i64 ((cd+1)))) 4 (.float .f64 cx))
 have hVq0:=hV0.cell;have hVf0:=hV0.free;refine bodyPost_ret (v:=.tuple #[.agg #[n,q,.int .i64 1,.int .i64 ((cd+1)),.float .f64 cx],.int .i64 0]) (by simp[results,Tryz.results184,go_sem,hVq0,hVf0]) rfl ?_;clear qK1 fK1 lK1 qK2 fK2 lK2 qK3 fK3 lK3
 exact⟨rfl,(bst (bst (bst (bst (bst HB.out (w.heap.size+1+1) 0 _) (w.heap.size+1+1) 1 _) (w.heap.size+1+1) 2 _) (w.heap.size+1+1) 3 _) (w.heap.size+1+1) 4 _)⟩
theorem rsame09_self (cn cq co cd:Int) (cx:Nat) (w:World) (hx:F64 cx):Calls Tryz.prog 79 #[.agg #[cn,cq,co,cd,.float .f64 cx],.agg #[cn,cq,co,cd,.float .f64 cx]] w (Makes (.bool true) w):=by
 have HB1:=qq (fun W=>rbits_of cx hx W);obtain⟨p,hp⟩:∃p:Int,p=(fplain cx:Nat):=⟨_,rfl⟩
 rw[←hp] at HB1;clear hx hp;go_enter Tryz.func79,Tryz.ntmps79;go_wp2_with fail;refine reg_start (fun w'=>Blk w' _ _∧Blk w' _ _∧Below w.heap.size w w') (by kernel_rfl) ⟨((Blk.fresh _ _ _ (w.heap.size) (by simp)).alloc _).drew,(Blk.fresh _ _ _ (w.heap.size+1) (by simp)).drew,(bel_drew (bel_alloc (bel_alloc (Below.refl w.heap.size w) _) _))⟩ ?_;rintro w1 hHeld;obtain⟨K1',K2',HB'⟩:=id hHeld
 have K1:=qq K1';have K2:=qq K2';have HB:=qq HB';clear K1' K2' HB';have z1:=HB.out.size;refine takeM (d:=some 5) 0 rfl rfl hHeld (fun w' _=>by go_simp;(try rfl)) ?_;simp only[puts];refine takeM (d:=some 6) 1 rfl rfl hHeld (fun w' _=>by go_simp;(try rfl)) ?_;simp only[puts];refine takeM (d:=some 7) 2 rfl rfl hHeld (fun w' hS'=>by have qA:=hS'.1.cell;clear hS';go_simp;(try rfl)) ?_;simp only[puts]
 refine takeM (d:=some 8) 3 rfl rfl hHeld (fun w' _=>by go_simp;(try rfl)) ?_;simp only[puts];refine takeM (d:=some 9) 4 rfl rfl hHeld (fun w' _=>by go_simp;(try rfl)) ?_;simp only[puts];refine takeM (d:=some 10) 5 rfl rfl hHeld (fun w' hS'=>by have qA:=hS'.2.1.cell;clear hS';go_simp;(try rfl)) ?_;simp only[puts];refine takeM (d:=some 11) 6 rfl rfl hHeld (fun w' _=>by go_simp;(try rfl)) ?_
 simp only[puts];refine takeM (d:=some 12) 7 rfl rfl hHeld (fun w' _=>by go_simp;(try rfl)) ?_;simp only[puts];refine takeM (d:=some 13) 8 rfl rfl hHeld (fun w' _=>by go_simp;(try rfl)) ?_;simp only[puts];refine takeM (d:=some 14) 9 rfl rfl hHeld (fun w' _=>by go_simp;(try rfl)) ?_;simp only[puts]
 refine takeM (d:=some 15) 10 rfl rfl hHeld (fun w' hS'=>by have qA:=hS'.1.cell;clear hS';go_simp;(try rfl)) ?_;simp only[puts];refine takeM (d:=some 16) 11 rfl rfl hHeld (fun w' _=>by go_simp;(try rfl)) ?_;simp only[puts];refine takeM (d:=some 17) 12 rfl rfl hHeld (fun w' _=>by go_simp;(try rfl)) ?_;simp only[puts]
 refine takeM (d:=some 18) 13 rfl rfl hHeld (fun w' hS'=>by have qA:=hS'.2.1.cell;clear hS';go_simp;(try rfl)) ?_;simp only[puts];refine takeM (d:=some 19) 14 rfl rfl hHeld (fun w' _=>by go_simp;(try rfl)) ?_;simp only[puts];refine takeM (d:=some 20) 15 rfl rfl hHeld (fun w' _=>by go_simp;(try rfl)) ?_;simp only[puts];refine takeM (d:=some 21) 16 rfl rfl hHeld (fun w' _=>by go_simp;(try rfl)) ?_
 simp only[puts];refine takeM (d:=some 22) 17 rfl rfl hHeld (fun w' _=>by go_simp;(try rfl)) ?_;simp only[puts];refine takeM (d:=some 23) 18 rfl rfl hHeld (fun w' hS'=>by have qA:=hS'.1.cell;clear hS';go_simp;(try rfl)) ?_;simp only[puts];refine takeM (d:=some 24) 19 rfl rfl hHeld (fun w' _=>by go_simp;(try rfl)) ?_;simp only[puts]
 refine takeM (d:=some 25) 20 rfl rfl hHeld (fun w' hS'=>by have qA:=hS'.2.1.cell;clear hS';go_simp;(try rfl)) ?_;simp only[puts];refine takeM (d:=some 26) 21 rfl rfl hHeld (fun w' _=>by go_simp;(try rfl)) ?_;simp only[puts];refine takeM (d:=some 27) 22 rfl rfl hHeld (fun w' _=>by go_simp;(try rfl)) ?_;simp only[puts];refine takeM (d:=some 28) 23 rfl rfl hHeld (fun w' _=>by go_simp;(try rfl)) ?_
 simp only[puts];refine takeM (d:=some 29) 24 rfl rfl hHeld (fun w' _=>by go_simp;(try rfl)) ?_;simp only[puts];refine takeM (d:=some 30) 25 rfl rfl hHeld (fun w' hS'=>by have qA:=hS'.1.cell;clear hS';go_simp;(try rfl)) ?_;simp only[puts];refine takeM (d:=some 31) 26 rfl rfl hHeld (fun w' _=>by go_simp;(try rfl)) ?_;simp only[puts]
 refine takeM (d:=some 32) 27 rfl rfl hHeld (fun w' hS'=>by have qA:=hS'.2.1.cell;clear hS';go_simp;(try rfl)) ?_;simp only[puts];refine takeM (d:=some 33) 28 rfl rfl hHeld (fun w' _=>by go_simp;(try rfl)) ?_;simp only[puts];refine takeM (d:=some 34) 29 rfl rfl hHeld (fun w' _=>by go_simp;(try rfl)) ?_;simp only[puts];refine takeM (d:=some 35) 30 rfl rfl hHeld (fun w' _=>by go_simp;(try rfl)) ?_
 simp only[puts];refine takeM (d:=some 36) 31 rfl rfl hHeld (fun w' _=>by go_simp;(try rfl)) ?_;simp only[puts];refine takeM (d:=some 37) 32 rfl rfl hHeld (fun w' hS'=>by have qA:=hS'.1.cell;clear hS';go_simp;(try rfl)) ?_;simp only[puts];refine takeM (d:=some 39) 34 rfl rfl hHeld (fun w' _=>by go_simp;(try rfl)) ?_;simp only[puts]
 refine takeM (d:=some 40) 35 rfl rfl hHeld (fun w' hS'=>by have qA:=hS'.2.1.cell;clear hS';go_simp;(try rfl)) ?_;simp only[puts];refine one_M 33 (by kernel_rfl) ?_;refine wpOp_call (d:=some 38) 33 120 _ _ [.float .f64 cx] rfl rfl rfl (enters_of Tryz.func120 (by kernel_rfl) rfl) (by rfl) (by rfl) ?_;refine(HB1.out _).mono ?_;rintro e w2 ⟨rfl,rfl⟩;refine ret_S hHeld (fun hHeld=> ?_);simp only[puts]
 refine one_M 36 (by kernel_rfl) ?_;refine wpOp_call (d:=some 41) 36 120 _ _ [.float .f64 cx] rfl rfl rfl (enters_of Tryz.func120 (by kernel_rfl) rfl) (by rfl) (by rfl) ?_;refine(HB1.out _).mono ?_;rintro e w3 ⟨rfl,rfl⟩;refine ret_S hHeld (fun hHeld=> ?_);simp only[puts];refine takeM (d:=some 42) 37 rfl rfl hHeld (fun w' _=>by go_simp;(try rfl)) ?_;simp only[puts]
 refine takeM (d:=some 43) 38 rfl rfl hHeld (fun w' _=>by go_simp;(try rfl)) ?_;simp only[puts];refine takeM (d:=some 4) 39 rfl rfl hHeld (fun w' _=>by go_simp;(try rfl)) ?_;simp only[puts];refine doneM (by kernel_rfl) ?_ _;clear hHeld;obtain⟨lK1,qK1,fK1⟩:=K1.out;obtain⟨lK2,qK2,fK2⟩:=K2.out;go_wp2_with fail;refine bodyPost_ret (v:=.bool true) (by simp[results,Tryz.results79,go_sem]) rfl ?_
 clear qK1 fK1 lK1 qK2 fK2 lK2;exact⟨rfl,HB.out⟩
theorem rfull_acts (R:RLoc) (S:Sto) (w:World) (h:RStoreAt R S w) (hG:StoGood S) (h8:8≤S.acts.length):Calls Tryz.prog 179 #[.pointer (some ⟨R.sb,0,none⟩)] w (Makes (.bool true) w):=by
 obtain⟨ap,cp,hpv⟩:∃a c,R.av=.slice a S.acts.length c:=by obtain⟨a,c,hv,_⟩:=act_row h.len h.acts;exact⟨a,c,hv⟩
 have c2:w.cell? ⟨R.sb,2,none⟩=some (.slice ap S.acts.length cp):=by rw[←hpv];exact h.blk.cell 2
 have c1:w.cell? ⟨R.sb,1,none⟩=some (.int .i64 S.next):=h.blk.cell 1;have hsb:=h.blk.lt;obtain⟨n,hn⟩:∃n,n=S.acts.length:=⟨_,rfl⟩
 obtain⟨nx,hnx⟩:∃x,x=S.next:=⟨_,rfl⟩
 rw[←hn] at c2 h8;rw[←hnx] at c1;have e8:decide ((n:Int)>7)=true:=decide_eq_true (by omega);have e8':decide ((7:Int)<(n:Int))=true:=decide_eq_true (by omega);clear h hG hpv hn hnx;go_enter Tryz.func179,Tryz.ntmps179;go_wp2_with fail;refine bodyPost_ret (v:=.bool true) (by simp[results,Tryz.results179,go_sem]) rfl ?_;exact⟨rfl,(Below.refl w.heap.size w)⟩
theorem rfull_next (R:RLoc) (S:Sto) (w:World) (h:RStoreAt R S w) (hG:StoGood S) (h8:¬8≤S.acts.length) (h9:1000000≤S.next):Calls Tryz.prog 179 #[.pointer (some ⟨R.sb,0,none⟩)] w (Makes (.bool true) w):=by
 obtain⟨ap,cp,hpv⟩:∃a c,R.av=.slice a S.acts.length c:=by obtain⟨a,c,hv,_⟩:=act_row h.len h.acts;exact⟨a,c,hv⟩
 have c2:w.cell? ⟨R.sb,2,none⟩=some (.slice ap S.acts.length cp):=by rw[←hpv];exact h.blk.cell 2
 have c1:w.cell? ⟨R.sb,1,none⟩=some (.int .i64 S.next):=h.blk.cell 1;have hsb:=h.blk.lt;obtain⟨n,hn⟩:∃n,n=S.acts.length:=⟨_,rfl⟩
 obtain⟨nx,hnx⟩:∃x,x=S.next:=⟨_,rfl⟩
 rw[←hn] at c2 h8;rw[←hnx] at c1 h9;have e8:decide ((n:Int)>7)=false:=decide_eq_false (by omega);have e8':decide ((7:Int)<(n:Int))=false:=decide_eq_false (by omega);have e9:decide (nx>999999)=true:=decide_eq_true (by omega);have e9':decide (999999<nx)=true:=decide_eq_true (by omega);clear h hG hpv hn hnx;go_enter Tryz.func179,Tryz.ntmps179;go_wp2_with fail
 refine bodyPost_ret (v:=.bool true) (by simp[results,Tryz.results179,go_sem]) rfl ?_;exact⟨rfl,(Below.refl w.heap.size w)⟩
theorem rfull_no (R:RLoc) (S:Sto) (w:World) (h:RStoreAt R S w) (hG:StoGood S) (h8:¬8≤S.acts.length) (h9:¬1000000≤S.next):Calls Tryz.prog 179 #[.pointer (some ⟨R.sb,0,none⟩)] w (Makes (.bool false) w):=by
 obtain⟨ap,cp,hpv⟩:∃a c,R.av=.slice a S.acts.length c:=by obtain⟨a,c,hv,_⟩:=act_row h.len h.acts;exact⟨a,c,hv⟩
 have c2:w.cell? ⟨R.sb,2,none⟩=some (.slice ap S.acts.length cp):=by rw[←hpv];exact h.blk.cell 2
 have c1:w.cell? ⟨R.sb,1,none⟩=some (.int .i64 S.next):=h.blk.cell 1;have hsb:=h.blk.lt;obtain⟨n,hn⟩:∃n,n=S.acts.length:=⟨_,rfl⟩
 obtain⟨nx,hnx⟩:∃x,x=S.next:=⟨_,rfl⟩
 rw[←hn] at c2 h8;rw[←hnx] at c1 h9;have e8:decide ((n:Int)>7)=false:=decide_eq_false (by omega);have e8':decide ((7:Int)<(n:Int))=false:=decide_eq_false (by omega);have e9:decide (nx>999999)=false:=decide_eq_false (by omega);have e9':decide (999999<nx)=false:=decide_eq_false (by omega);clear h hG hpv hn hnx;go_enter Tryz.func179,Tryz.ntmps179;go_wp2_with fail
 refine bodyPost_ret (v:=.bool false) (by simp[results,Tryz.results179,go_sem]) rfl ?_;exact⟨rfl,(Below.refl w.heap.size w)⟩
theorem rfull_of (R:RLoc) (S:Sto) (w:World) (h:RStoreAt R S w) (hG:StoGood S):Calls Tryz.prog 179 #[.pointer (some ⟨R.sb,0,none⟩)] w (Makes (.bool (lFull S)) w):=by
 unfold lFull;by_cases h8:8≤S.acts.length
 · rw[decide_eq_true (Or.inl h8)];exact rfull_acts R S w h hG h8
 by_cases h9:1000000≤S.next
 · rw[decide_eq_true (Or.inr h9)];exact rfull_next R S w h hG h8 h9
 · rw[decide_eq_false (fun h=>h.elim h8 h9)];exact rfull_no R S w h hG h8 h9
theorem ropened_of (cn cq co cd:Int) (cx:Nat) (pa:Int) (w:World):Calls Tryz.prog 181 #[.agg #[cn,cq,co,cd,.float .f64 cx],.int .i64 pa] w (ResR ⟨[fOpn ⟨cn,cq,co,cd,cx⟩ pa],[],0⟩ w):=by
 go_enter Tryz.func181,Tryz.ntmps181;go_wp2_with fail;refine bodyPost_ret (v:=.agg #[.slice (some ⟨w.heap.size+1+1,0,none⟩) 1 1,.slice none 0 0,.int .i64 0]) (by simp[results,Tryz.results181,go_sem]) rfl ?_
 exact⟨some ⟨w.heap.size+1+1,0,none⟩,1,none,0,rfl,⟨read_fone (f:=fOpn ⟨cn,cq,co,cd,cx⟩ pa) (Blk.fresh (((w.alloc (.cells #[cn,cq,co,cd,.float .f64 cx] 48)).alloc (.cells #[.slice (some ⟨w.heap.size+1+1,0,none⟩) 1 1,.slice none 0 0,.int .i64 0] 95))) #[.int .i64 1,.int .i64 cn,.int .i64 cq,.int .i64 0,.int .i64 0,.int .i64 0,.int .i64 0,.int .i64 co,.int .i64 cd,.int .i64 pa,.int .i64 0,.int .i64 0,.int .i64 0,.float .f64 cx] 42 (w.heap.size+1+1) (by simp)),read_mnil,one_block (by first | omega | (simp;done) | (simp;omega)),no_block⟩,(bel_alloc (bel_alloc (bel_alloc (Below.refl w.heap.size w) _) _) _)⟩
theorem rnew_bad (n q oc:Int) (now lasts:Nat) (w:World) (hn:F64 now) (hl:F64 lasts) (hi:idOk n q=true) (hb:fdelay now=false∨fdelay lasts=false∨¬(oc=1∨oc=2)):Calls Tryz.prog 180 #[.agg #[n,q],.int .i64 oc,.float .f64 now,.float .f64 lasts] w (Makes (.tuple #[.agg #[.int .i64 0,.int .i64 0,.int .i64 0,.int .i64 0,.float .f64 0],.int .i64 4]) w):=by
 by_cases ho:oc=1∨oc=2
 case neg=>exact rnew_form n q oc now lasts w hn hl hi ho
 cases d1:fdelay now with
 | false=>exact rnew_now n q oc now lasts w hn hl hi ho d1
 | true=>
  cases d2:fdelay lasts with
  | false=>exact rnew_lasts n q oc now lasts w hn hl hi ho d1 d2
  | true=>rcases hb with h | h | h<;>first | (rw[d1] at h;cases h;done) | (rw[d2] at h;cases h;done) | exact absurd ho h
end Go.Proofs.YtlkajejbfojkeaaGreatDoor
