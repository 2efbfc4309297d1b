/- FcC, FcD, FcF, FcG, FcP, Acts -/
import Derived.Test.YtlkajejbfojkeaaGreatDoorHFbWToStepI
import Derived.Test.YtlkajejbfojkeaaGreatDoorKStoNToStoB
import Derived.Laws.AppendOwnNone
import Derived.Test.YtlkajejbfojkeaaGreatDoorKFacFToFacC
import Derived.Maps.AppendAt
set_option linter.unusedSimpArgs false
set_option linter.unusedVariables false
set_option maxRecDepth 100000
set_option maxHeartbeats 16000000
namespace Go.Proofs.YtlkajejbfojkeaaGreatDoor
open Go.RowKit Go.Shelf
attribute [local go_sem] store_float
theorem reg_startZ {P : Program} {ops : Array Oper} {Q : Exit → Act → World → Prop} {id : Nat} {a : Act} {w : World} (F E : World → Prop) (hm : P.follows .mixedOrders = true) (hF : F w.drew) (hE : E w.drew) (ex : Nat → Bool)
    (h:∀w1,F w1→E w1→wpAnyX P .any ops Q ex F ops.size (Array.replicate ops.size false) a w1):(Code.region id ops true).wp P Q a w:=wp_region_any hm (wpAny_of_X _ _ _ _ (h _ hF hE))
def KeepZ (o:Option Nat) (w w':World):Prop:=w.heap.size≤w'.heap.size∧∀k,k<w.heap.size→o≠some k→w'.heap[k]? =w.heap[k]?
theorem KeepZ.of_below {o:Option Nat} {w w':World} (h:Below w.heap.size w w'):KeepZ o w w':=⟨h.size,fun k hk _=>h.block k hk⟩
theorem KeepZ.alloc {o:Option Nat} {w w':World} (h:KeepZ o w w') (x:Obj):KeepZ o w (w'.alloc x):=⟨Nat.le_trans h.1 (by simp),fun k hk hn=>(((Below.refl _ _).alloc (Nat.le_refl _) x).block k (Nat.lt_of_lt_of_le hk h.1)).trans (h.2 k hk hn)⟩
theorem KeepZ.grown {o:Option Nat} {w w1 w2:World} (h:KeepZ o w w1) (hg:w1.grownBy w2 o):KeepZ o w w2:=⟨Nat.le_trans h.1 hg.size,fun k hk hn=>(hg.block k (Nat.lt_of_lt_of_le hk h.1) (fun e=>hn e.symm)).trans (h.2 k hk hn)⟩
theorem KeepZ.blk {o:Option Nat} {w w':World} {b:Nat} {C:Array Value} (h:KeepZ o w w') (hb:Blk w b C) (hn:o≠some b):Blk w' b C:=hb.same h.1 (h.2 b hb.lt hn)
theorem KeepZ.row {o:Option Nat} {w w':World} {B:Nat} {e:TypeId} {size:Nat} {v:Value} {n:Nat} {xs:List Value} (h:KeepZ o w w') (hr:w.ownsRow B e size v n xs) (hn:∀k,v.ownBlock=some k→o≠some k):w'.ownsRow B e size v n xs:=row_heap hr (fun k hk=>h.2 k (hr.lt k hk).2 (hn k hk))
theorem enrF_append (a:SAct):∀(l m:List SReg) (i:Nat),enrF a i (l ++m)=enrF a i l ++enrF a (i+l.length) m
 | [],m,i=>by simp[enrF]
 | r::t,m,i=>by
  show _::enrF a (i+1) (t ++m)=(_::enrF a (i+1) t) ++_
  rw[enrF_append a t m (i+1),List.cons_append];congr 3;simp;omega
theorem seatF_append (a:SAct):∀(l m:List SReg) (i:Nat),seatF a i (l ++m)=seatF a i l ++seatF a (i+l.length) m
 | [],m,i=>by simp[seatF]
 | r::t,m,i=>by
  show _ ++seatF a (i+1) (t ++m)=(_ ++seatF a (i+1) t) ++_
  rw[seatF_append a t m (i+1),List.append_assoc];congr 3;simp;omega
theorem enrF_len (a:SAct):∀(l:List SReg) (i:Nat),(enrF a i l).length=l.length
 | [],i=>rfl
 | r::t,i=>by show(enrF a (i+1) t).length+1=_;rw[enrF_len a t (i+1)];rfl
theorem seatF_len (a:SAct):∀(l:List SReg) (i:Nat),(seatF a i l).length≤l.length
 | [],i=>by simp[seatF]
 | r::t,i=>by
  have h:=seatF_len a t (i+1);unfold seatF;rw[List.length_append,List.length_cons];split<;>simp<;>omega
theorem enrF_take {a:SAct} {l:List SReg} {j:Nat} {r:SReg} (h:l[j]? =some r):enrF a 0 (l.take (j+1))=enrF a 0 (l.take j) ++ [⟨2,a.an,a.aq,(j:Int),r.n,r.p,r.seat.p,0,0,0,0,0,0,0⟩]:=by
 obtain⟨hk,he⟩:=List.getElem?_eq_some_iff.1 h;rw[List.take_succ_eq_append_getElem hk,he,enrF_append,List.length_take,Nat.min_eq_left (Nat.le_of_lt hk),Nat.zero_add];rfl
theorem seatF_take {a:SAct} {l:List SReg} {j:Nat} {r:SReg} (h:l[j]? =some r):seatF a 0 (l.take (j+1))=seatF a 0 (l.take j) ++(if r.seat.s=1 then[] else[⟨3,a.an,a.aq,(j:Int),0,0,0,0,0,0,r.seat.s,r.seat.h,0,0⟩]):=by
 obtain⟨hk,he⟩:=List.getElem?_eq_some_iff.1 h;rw[List.take_succ_eq_append_getElem hk,he,seatF_append,List.length_take,Nat.min_eq_left (Nat.le_of_lt hk),Nat.zero_add];show _ ++(_ ++ [])=_
 rw[List.append_nil]
theorem actF_len {a:SAct} (h:a.regs.length≤6):(actF a).length≤14:=by
 have h1:=enrF_len a a.regs 0;have h2:=seatF_len a a.regs 0;unfold actF;simp only[List.length_cons,List.length_append];split<;>simp<;>omega
theorem flatF_len:∀(l:List SAct),(∀a∈l,a.regs.length≤6)→(l.flatMap actF).length≤14*l.length
 | [],_=>by simp
 | a::t,h=>by
  have h1:=actF_len (h a (by simp));have h2:=flatF_len t (fun b hb=>h b (by simp[hb]));rw[List.flatMap_cons,List.length_append,List.length_cons];omega
theorem flatF_take {l:List SAct} {k:Nat} {a:SAct} (h:l[k]? =some a):(l.take (k+1)).flatMap actF=(l.take k).flatMap actF ++actF a:=by
 obtain⟨hk,he⟩:=List.getElem?_eq_some_iff.1 h;rw[List.take_succ_eq_append_getElem hk,he,List.flatMap_append];simp
structure FRow (B cb:Nat) (C:Array Value) (v:Value) (fs:List SFact) (w0 w:World):Prop where
 row:w.ownsRow B 39 14 v fs.length (factsL fs)
 blk:Blk w cb C
 ne:v.ownBlock≠some cb
 be:Below w0.heap.size w0 w
theorem FRow.below {B cb:Nat} {C:Array Value} {v:Value} {fs:List SFact} {w0 w w':World} (h:FRow B cb C v fs w0 w) (hb:Below w.heap.size w w'):FRow B cb C v fs w0 w':=⟨row_be h.row hb,h.blk.below hb,h.ne,below_then h.be hb⟩
theorem FRow.snoc {B cb:Nat} {C:Array Value} {v v2:Value} {fs:List SFact} {f:SFact} {w0 w1 w2:World} (h:FRow B cb C v fs w0 w1) (hB:w0.heap.size≤B) (hown:w2.ownsRow B 39 14 v2 (fs.length+1) (factsL fs ++factL f)) (hg:w1.grownBy w2 v.ownBlock) (hat:v2.ownBlock=v.ownBlock∨v2.ownBlock=some w1.heap.size):FRow B cb C v2 (fs ++ [f]) w0 w2:=
 ⟨by rw[List.length_append,factsL_snoc];exact hown,h.blk.same hg.size (hg.block _ h.blk.lt (fun e=>h.ne e.symm)),fun e=>by
   rcases hat with h1 | h1
   · exact h.ne (by rw[←h1];exact e)
   · have:=h.blk.lt;rw[h1] at e;injection e with e
     omega,h.be.grown hg h.be.size (fun j hj=>Nat.le_trans hB (h.row.lt j hj).1)⟩
theorem actFacts_of (L:SLoc) (S:Sto) (w:World) (h:StoreAt L S w) (hG:StoGood S):Calls Tryz.prog 112 #[.pointer (some ⟨L.sb,0,none⟩)] w (fun e w'=>∃a c,e=.returned (.slice a (S.acts.flatMap actF).length c)∧w'.ownsRow w.heap.size 39 14 (.slice a (S.acts.flatMap actF).length c) (S.acts.flatMap actF).length (factsL (S.acts.flatMap actF))∧Below w.heap.size w w'):=by
 obtain⟨i0,ei,ez,es,eb⟩:=info_parts infoFactC;obtain⟨aa,ac,hav,hal,har⟩:=ptr_row h.acts;have h8:=hG.acts;have HLN:=qq (fun a (ha:a∈S.acts)=>(hG.act a ha).len);have HHL:=qq h.len;obtain⟨n,hn⟩:∃n,n=S.acts.length:=⟨_,rfl⟩
 rw[←hn] at har h8;have c2:∀W,Below w.heap.size w W→W.cell? ⟨L.sb,2,none⟩=some (.slice aa n ac):=fun W hW=>by have:=(h.below hW).blk.cell 2;rw[hav] at this;rw[hn];exact this
 have q2:=c2 w (Below.refl _ _);have hsb:=h.blk.lt;have HAR:=qq har;have HN:=qq hn;have HACT:=qq h.act;clear h hG har hal hav c2 hn;go_enter Tryz.func112,Tryz.ntmps112;go_wp2_with fail
 go_loopw [3,16] (fun u cc wr=>∃k:Nat,k≤n∧cc=.int .i64 (k:Int)∧Hid (wr.ownsRow w.heap.size 39 14 u ((S.acts.take k).flatMap actF).length (factsL ((S.acts.take k).flatMap actF)))∧Hid (Below w.heap.size w wr)) (fun _ cc _=>n - (intOf cc).toNat)
 case atStart=>exact⟨0,by omega,by first | rfl | go_num,qq (World.ownsRow_nil _ _ _ _),qq (Below.refl _ _)⟩
 case round=>
  obtain⟨k,hk,rfl,HO,HB⟩:=hrel;obtain⟨ua,uc,hu⟩:=row_slice HO.out;subst hu;have hk0:(0:Int)≤(k:Int):=by omega
  have HPL0:Hid (((S.acts.take k).flatMap actF).length≤112):=qq (by have h1:=flatF_len (S.acts.take k) (fun a ha=>HLN.out a (List.mem_of_mem_take ha));rw[List.length_take] at h1;omega);obtain⟨m,hm⟩:∃m,m=((S.acts.take k).flatMap actF).length:=⟨_,rfl⟩
  have HM:=qq hm;have hm112:m≤112:=by rw[hm];exact HPL0.out
  rw[←hm] at HO⊢;clear hm;have hwr:=HB.out.size;by_cases hlt:k<n
  · have hk1:(k:Int)<(n:Int):=by omega
    have hks:k<S.acts.length:=by rw[←HN.out];exact hlt
    obtain⟨g,rfl,hg,_,hpt⟩:=HAR.out (by omega);obtain⟨x,hx⟩:∃x,L.ab[k]? =some x:=⟨_,List.getElem?_eq_getElem (by rw[HHL.out];exact hks)⟩
    obtain⟨a,ha⟩:∃a,S.acts[k]? =some a:=⟨_,List.getElem?_eq_getElem hks⟩
    obtain⟨hbk,hrg⟩:=HACT.out k x a hx ha;have hp:=(HB.out.cell (p:=⟨g,k,none⟩) hg).trans (hpt k x hx);have hgw:g<wr.heap.size:=by omega
    have HTK:=qq (flatF_take ha);have hl6:=HLN.out a (List.mem_of_getElem? ha);obtain⟨rga,rgc,hrv,hrl,hrr⟩:=reg_row hrg;obtain⟨xb,xv⟩:=x;obtain⟨an,aq,oc,dp,ex,pa,de,rs⟩:=a;dsimp only at hbk hrv hrl hrr hl6 hp HTK;obtain⟨nr,hnr⟩:∃r,r=rs.length:=⟨_,rfl⟩
    have HNR:=qq hnr;rw[←hnr] at hrv hrl hrr hl6;subst hrv;have HXB:=qq hbk;have HRR:=qq hrr;have hxb:=hbk.lt;obtain⟨pl,hpl⟩:∃l,l=(S.acts.take k).flatMap actF:=⟨_,rfl⟩
    have HPL:Hid (pl.length=m):=qq (by rw[hpl];exact HM.out.symm);rw[←hpl] at HO HTK;have qx:=(hbk.below HB.out).cell;have KC:=qq (Blk.fresh wr #[an,aq,oc,dp,.float .f64 ex] 48 _ rfl);have hb1:=(Below.refl wr.heap.size wr).alloc (Nat.le_refl _) (.cells #[an,aq,oc,dp,.float .f64 ex] 48)
    have HC:Hid (FRow w.heap.size wr.heap.size #[.int .i64 an,.int .i64 aq,.int .i64 oc,.int .i64 dp,.float .f64 ex] (.slice ua m uc) pl w (wr.alloc (.cells #[an,aq,oc,dp,.float .f64 ex] 48))):=qq ⟨row_be (by rw[HPL.out];exact HO.out) hb1,KC.out,fun e=>by have:=(HO.out.lt _ e).2;omega,below_then HB.out hb1⟩;clear hx ha hbk hrg hpt hrr hrl hnr hpl hb1 hlt;go_wp2_with fail
    obtain⟨w8,hw8⟩:∃w8,w8=wr.alloc (.cells #[an,aq,oc,dp,.float .f64 ex] 48):=⟨_,rfl⟩
    obtain⟨cb,hcb⟩:∃b,b=wr.heap.size:=⟨_,rfl⟩
    simp only[←hw8,←hcb] at*;clear qx hw8 KC hp;obtain⟨ob,hob⟩:∃ob,ob=(Value.slice ua (m) uc).ownBlock:=⟨_,rfl⟩
    have NC:ob≠some cb:=fun e=>HC.out.ne (by rw[←hob];exact e)
    have NX:ob≠some xb:=fun e=>by rw[hob] at e;have:=(HC.out.row.lt _ e).1;omega
    have HXW:=qq (HXB.out.below HC.out.be);have hzb:=HC.out.be.size;refine reg_startZ (fun w'=>KeepZ ob w8 w'∧Below w.heap.size w w') (Below w8.heap.size w8) (by kernel_rfl) ⟨.of_below (Below.refl _ _).drew,bel_drew HC.out.be⟩ (Below.refl _ _).drew (fun _=>false) ?_;intro w9 hHeld hb9;refine takeX (d:=some 24) 0 rfl rfl hHeld (fun w' hS'=>by clear hS';go_simp;(try rfl)) ?_;simp only[puts]
    refine takeX (d:=some 25) 1 rfl rfl hHeld (fun w' hS'=>by clear hS';go_simp;(try rfl)) ?_;simp only[puts];refine takeX (d:=some 26) 2 rfl rfl hHeld (fun w' hS'=>by have qA:=(hS'.1.blk HC.out.blk NC).cell;clear hS';go_simp;(try rfl)) ?_;simp only[puts];refine takeX (d:=some 27) 3 rfl rfl hHeld (fun w' hS'=>by clear hS';go_simp;(try rfl)) ?_;simp only[puts]
    refine takeX (d:=some 28) 4 rfl rfl hHeld (fun w' hS'=>by have qA:=(hS'.1.blk HC.out.blk NC).cell;clear hS';go_simp;(try rfl)) ?_;simp only[puts];refine takeX (d:=some 29) 5 rfl rfl hHeld (fun w' hS'=>by clear hS';go_simp;(try rfl)) ?_;simp only[puts];refine takeX (d:=some 30) 6 rfl rfl hHeld (fun w' hS'=>by have qA:=(hS'.1.blk HC.out.blk NC).cell;clear hS';go_simp;(try rfl)) ?_
    simp only[puts];refine takeX (d:=some 31) 7 rfl rfl hHeld (fun w' hS'=>by clear hS';go_simp;(try rfl)) ?_;simp only[puts];refine takeX (d:=some 32) 8 rfl rfl hHeld (fun w' hS'=>by have qA:=(hS'.1.blk HC.out.blk NC).cell;clear hS';go_simp;(try rfl)) ?_;simp only[puts];refine takeX (d:=some 33) 9 rfl rfl hHeld (fun w' hS'=>by clear hS';go_simp;(try rfl)) ?_;simp only[puts]
    refine takeX (d:=some 34) 10 rfl rfl hHeld (fun w' hS'=>by clear hS';go_simp;(try rfl)) ?_;simp only[puts];refine takeX (d:=some 35) 11 rfl rfl hHeld (fun w' hS'=>by clear hS';go_simp;(try rfl)) ?_;simp only[puts];refine takeX (d:=some 36) 12 rfl rfl hHeld (fun w' hS'=>by have qA:=(hS'.1.blk HXW.out NX).cell;clear hS';go_simp;(try rfl)) ?_;simp only[puts]
    refine takeX (d:=some 37) 13 rfl rfl hHeld (fun w' hS'=>by clear hS';go_simp;(try rfl)) ?_;simp only[puts];have hb10:=hb9.alloc hb9.size (.cells #[.int .i64 1,an,aq,.int .i64 0,.int .i64 0,.int .i64 0,.int .i64 0,oc,dp,pa,.int .i64 0,.int .i64 0,.int .i64 0,.float .f64 ex] 39)
    refine new_X (d:=some 38) 14 (.slice (some ⟨w9.heap.size,0,none⟩) 1 1) #[.int .i64 1,.int .i64 an,.int .i64 aq,.int .i64 0,.int .i64 0,.int .i64 0,.int .i64 0,.int .i64 oc,.int .i64 dp,.int .i64 pa,.int .i64 0,.int .i64 0,.int .i64 0,.float .f64 ex] 39 rfl rfl (by go_simp) ⟨hHeld.1.alloc _,bel_alloc hHeld.2 _⟩ ?_;intro hS10 kF;simp only[puts]
    refine app_X (d:=some 39) 15 rfl rfl rfl (.tmp 24) (.tmp 38) 22 rfl w.heap.size 39 i0 (.agg #[.int .i64 0,.int .i64 0,.int .i64 0,.int .i64 0,.int .i64 0,.int .i64 0,.int .i64 0,.int .i64 0,.int .i64 0,.int .i64 0,.int .i64 0,.int .i64 0,.int .i64 0,.float .f64 0]) 14 112 Tryz.underlying22 ei ez es eb rfl (by decide) (.slice ua (m) uc) (m) (factsL (pl)) (by simp[Act.eval]) (row_be (by have:=HC.out.row;rw[HPL.out] at this;exact this) hb10) ⟨w9.heap.size,0,none⟩ 1 1 (factL ⟨1,an,aq,0,0,0,0,oc,dp,pa,0,0,0,ex⟩) (by rfl) rfl (lit_cells kF) (factL_one ⟨1,an,aq,0,0,0,0,oc,dp,pa,0,0,0,ex⟩) (by unfold maxLen;omega) (by omega) (by have:=hb10.size;omega) ?_
    intro v3 w11 hown hgrow hat;have HCN:=qq ((HC.out.below hb10).snoc (f:=⟨1,an,aq,0,0,0,0,oc,dp,pa,0,0,0,ex⟩) (Nat.le_refl _) (by rw[HPL.out];exact hown) hgrow hat);obtain⟨ua2,uc2,hu2⟩:=row_slice hown;subst hu2;have hHeld:KeepZ ob w8 w11∧Below w.heap.size w w11:=⟨hS10.1.grown (by rw[hob];exact hgrow),HCN.out.be⟩
    clear hown hat hb10 kF hgrow;refine⟨.inr hHeld,?_⟩;simp only[puts];refine pure_X (d:=some 3) 16 rfl rfl hHeld (by go_simp;(try rfl)) ?_;simp only[puts];refine doneX (by kernel_rfl) ?_ _;clear hHeld hS10 hb9 NC NX hob HXW hzb HC;have qx:=(HXB.out.below HCN.out.be).cell;have hzr:=HCN.out.be.size;have hxw:xb<w11.heap.size:=by omega
    go_wp2_with fail;clear qx;go_loopw [3,45] (fun u cc wr=>∃j:Nat,j≤nr∧cc=.int .i64 (j:Int)∧Hid (FRow w.heap.size cb #[.int .i64 an,.int .i64 aq,.int .i64 oc,.int .i64 dp,.float .f64 ex] u (pl ++([⟨1,an,aq,0,0,0,0,oc,dp,pa,0,0,0,ex⟩]:List SFact) ++enrF ⟨an,aq,oc,dp,ex,pa,de,rs⟩ 0 (rs.take j)) w wr)) (fun _ cc _=>nr - (intOf cc).toNat)
    case atStart=>exact⟨0,by omega,by first | rfl | go_num,qq (by have:=HCN.out;simpa[enrF,seatF] using this)⟩
    case round=>
     obtain⟨j,hj,rfl,HC⟩:=hrel;obtain⟨ua,uc,hu⟩:=row_slice HC.out.row;have hj0:(0:Int)≤(j:Int):=by omega
     obtain⟨ls,hls⟩:∃l:List SFact,l=pl ++([⟨1,an,aq,0,0,0,0,oc,dp,pa,0,0,0,ex⟩]:List SFact) ++enrF ⟨an,aq,oc,dp,ex,pa,de,rs⟩ 0 (rs.take j):=⟨_,rfl⟩
     obtain⟨m2,hm2⟩:∃m,m=ls.length:=⟨_,rfl⟩
     rw[←hls] at HC hu;have hm3:m2≤130:=by
      rw[hm2,hls];have e1:=HPL.out;have e2:=enrF_len ⟨an,aq,oc,dp,ex,pa,de,rs⟩ rs 0;have e2':=enrF_len ⟨an,aq,oc,dp,ex,pa,de,rs⟩ (rs.take j) 0;have e3:=seatF_len ⟨an,aq,oc,dp,ex,pa,de,rs⟩ (rs.take j) 0;have e5:=HNR.out;have e4:(rs.take j).length≤6:=by rw[List.length_take];omega
      simp only[List.length_append,List.length_cons,List.length_nil];omega
     have HM2:=qq hm2;have HLS:=qq hls;rw[←hm2] at hu;subst hu;clear hm2 hls;have hwr2:=HC.out.be.size;by_cases hlt:j<nr
     · have hj1:(j:Int)<(nr:Int):=by omega
       obtain⟨gr,rfl,hgr,_,hrc⟩:=HRR.out (by omega);obtain⟨r,hr⟩:∃r,rs[j]? =some r:=⟨_,List.getElem?_eq_getElem (by have:=HNR.out;omega)⟩
       obtain⟨r0,r1,r2,r3,r4,r5⟩:=(hrc j r hr).below HC.out.be hgr;have hgw2:gr<wr.heap.size:=by omega
       have HT2:=qq (enrF_take (a:=⟨an,aq,oc,dp,ex,pa,de,rs⟩) hr);obtain⟨rn,rp,⟨sp,sd,ss,sh⟩⟩:=r;dsimp only at r0 r1 r2 r3 r4 r5 HT2;have hb1:=(Below.refl wr.heap.size wr).alloc (Nat.le_refl _) (.cells #[rn,rp,sp,sd,ss,sh] 55);have HC1:=qq (HC.out.below hb1);obtain⟨lc,qc,fc⟩:=HC1.out.blk;clear hr hrc hb1
       have hal:=(Below.refl (wr.alloc (.cells #[rn,rp,sp,sd,ss,sh] 55)).heap.size (wr.alloc (.cells #[rn,rp,sp,sd,ss,sh] 55))).alloc (Nat.le_refl _) (.cells #[.int .i64 2,an,aq,.int .i64 ((j:Int)),rn,rp,sp,.int .i64 0,.int .i64 0,.int .i64 0,.int .i64 0,.int .i64 0,.int .i64 0,.float .f64 0] 39);have HCA:=qq (HC1.out.below hal)
       have hrow:((wr.alloc (.cells #[rn,rp,sp,sd,ss,sh] 55)).alloc (.cells #[.int .i64 2,an,aq,.int .i64 ((j:Int)),rn,rp,sp,.int .i64 0,.int .i64 0,.int .i64 0,.int .i64 0,.int .i64 0,.int .i64 0,.float .f64 0] 39)).ownsRow w.heap.size 39 14 (.slice ua m2 uc) m2 (factsL (ls)):=by have:=HCA.out.row;rw[←HM2.out] at this;exact this
       clear hal
       go_wp2_with (at_builtin;refine wpList_append_own_at _ rfl _ _ 22 rfl w.heap.size 39 i0 (.agg #[.int .i64 0,.int .i64 0,.int .i64 0,.int .i64 0,.int .i64 0,.int .i64 0,.int .i64 0,.int .i64 0,.int .i64 0,.int .i64 0,.int .i64 0,.int .i64 0,.int .i64 0,.float .f64 0]) 14 112 Tryz.underlying22 ei ez es eb rfl (by decide) _ _ _ rfl hrow ⟨wr.heap.size+1,0,none⟩ 1 1 (factL ⟨2,an,aq,(j:Int),rn,rp,sp,0,0,0,0,0,0,0⟩) (by rfl) rfl (lit_cells (Blk.fresh _ _ _ _ (by simp))) (factL_one ⟨2,an,aq,(j:Int),rn,rp,sp,0,0,0,0,0,0,0⟩) ?d3_3 ?d4_3 ?d5_3 ?_)
       case d3_3=>unfold maxLen;omega
       case d4_3=>omega
       case d5_3=>exact HCA.out.be.size
       intro v2 w7 hown hgrow _ hat;obtain⟨ua2,uc2,hu2⟩:=row_slice hown;subst hu2;have HC2:=qq (HCA.out.snoc (f:=⟨2,an,aq,(j:Int),rn,rp,sp,0,0,0,0,0,0,0⟩) (Nat.le_refl _) (by rw[←HM2.out];exact hown) hgrow (by rw[World.size_alloc,World.size_alloc];exact hat));clear hown hgrow hat hrow HCA qc lc fc;go_wp2_with fail;go_roundw
       case rel=>exact⟨j+1,by omega,by go_num,qq (by rw[HT2.out,←List.append_assoc,←HLS.out];exact HC2.out)⟩
       case measure=>simp[intOf];omega
     · obtain rfl:nr=j:=by omega
       have hall:rs.take nr=rs:=List.take_of_length_le (by have:=HNR.out;omega);rw[HLS.out,hall] at HC HM2;clear hall hlt HLS;have HCN:=HC;obtain⟨w11,hw11⟩:∃x,x=wr:=⟨_,rfl⟩
       subst hw11;clear HC;have qx:=(HXB.out.below HCN.out.be).cell;have hzr:=HCN.out.be.size;have hxw:xb<w11.heap.size:=by omega
       go_wp2_with fail;clear qx;go_loopw [3,70] (fun u cc wr=>∃j:Nat,j≤nr∧cc=.int .i64 (j:Int)∧Hid (FRow w.heap.size cb #[.int .i64 an,.int .i64 aq,.int .i64 oc,.int .i64 dp,.float .f64 ex] u ((pl ++([⟨1,an,aq,0,0,0,0,oc,dp,pa,0,0,0,ex⟩]:List SFact) ++enrF ⟨an,aq,oc,dp,ex,pa,de,rs⟩ 0 rs) ++seatF ⟨an,aq,oc,dp,ex,pa,de,rs⟩ 0 (rs.take j)) w wr)) (fun _ cc _=>nr - (intOf cc).toNat)
       case atStart=>exact⟨0,by omega,by first | rfl | go_num,qq (by have:=HCN.out;simpa[enrF,seatF] using this)⟩
       case round=>
        obtain⟨j,hj,rfl,HC⟩:=hrel;obtain⟨ua,uc,hu⟩:=row_slice HC.out.row;have hj0:(0:Int)≤(j:Int):=by omega
        obtain⟨ls,hls⟩:∃l:List SFact,l=(pl ++([⟨1,an,aq,0,0,0,0,oc,dp,pa,0,0,0,ex⟩]:List SFact) ++enrF ⟨an,aq,oc,dp,ex,pa,de,rs⟩ 0 rs) ++seatF ⟨an,aq,oc,dp,ex,pa,de,rs⟩ 0 (rs.take j):=⟨_,rfl⟩
        obtain⟨m2,hm2⟩:∃m,m=ls.length:=⟨_,rfl⟩
        rw[←hls] at HC hu;have hm3:m2≤130:=by
         rw[hm2,hls];have e1:=HPL.out;have e2:=enrF_len ⟨an,aq,oc,dp,ex,pa,de,rs⟩ rs 0;have e2':=enrF_len ⟨an,aq,oc,dp,ex,pa,de,rs⟩ (rs.take j) 0;have e3:=seatF_len ⟨an,aq,oc,dp,ex,pa,de,rs⟩ (rs.take j) 0;have e5:=HNR.out;have e4:(rs.take j).length≤6:=by rw[List.length_take];omega
         simp only[List.length_append,List.length_cons,List.length_nil];omega
        have HM2:=qq hm2;have HLS:=qq hls;rw[←hm2] at hu;subst hu;clear hm2 hls;have hwr2:=HC.out.be.size;by_cases hlt:j<nr
        · have hj1:(j:Int)<(nr:Int):=by omega
          obtain⟨gr,rfl,hgr,_,hrc⟩:=HRR.out (by omega);obtain⟨r,hr⟩:∃r,rs[j]? =some r:=⟨_,List.getElem?_eq_getElem (by have:=HNR.out;omega)⟩
          obtain⟨r0,r1,r2,r3,r4,r5⟩:=(hrc j r hr).below HC.out.be hgr;have hgw2:gr<wr.heap.size:=by omega
          have HT2:=qq (seatF_take (a:=⟨an,aq,oc,dp,ex,pa,de,rs⟩) hr);obtain⟨rn,rp,⟨sp,sd,ss,sh⟩⟩:=r;dsimp only at r0 r1 r2 r3 r4 r5 HT2;have hb1:=(Below.refl wr.heap.size wr).alloc (Nat.le_refl _) (.cells #[rn,rp,sp,sd,ss,sh] 55);have HC1:=qq (HC.out.below hb1);obtain⟨lc,qc,fc⟩:=HC1.out.blk;clear hr hrc hb1
          have kR:Blk (wr.alloc (.cells #[rn,rp,sp,sd,ss,sh] 55)) wr.heap.size #[.int .i64 rn,.int .i64 rp,.int .i64 sp,.int .i64 sd,.int .i64 ss,.int .i64 sh]:=Blk.fresh _ _ _ _ rfl;by_cases h1s:ss=1
          · have hs1:(ss !=1)=false:=by simpa using h1s
            rw[if_pos h1s,List.append_nil] at HT2;clear h1s;go_wp2_with fail;go_roundw
            case rel=>exact⟨j+1,by omega,by go_num,qq (by rw[HT2.out,←HLS.out];exact HC1.out)⟩
            case measure=>simp[intOf];omega
          · have hs1:(ss !=1)=true:=by simpa using h1s
            rw[if_neg h1s] at HT2;clear h1s;have hal:=(Below.refl (wr.alloc (.cells #[rn,rp,sp,sd,ss,sh] 55)).heap.size (wr.alloc (.cells #[rn,rp,sp,sd,ss,sh] 55))).alloc (Nat.le_refl _) (.cells #[.int .i64 3,an,aq,.int .i64 ((j:Int)),.int .i64 0,.int .i64 0,.int .i64 0,.int .i64 0,.int .i64 0,.int .i64 0,ss,sh,.int .i64 0,.float .f64 0] 39);have HCA:=qq (HC1.out.below hal)
            have hrow:((wr.alloc (.cells #[rn,rp,sp,sd,ss,sh] 55)).alloc (.cells #[.int .i64 3,an,aq,.int .i64 ((j:Int)),.int .i64 0,.int .i64 0,.int .i64 0,.int .i64 0,.int .i64 0,.int .i64 0,ss,sh,.int .i64 0,.float .f64 0] 39)).ownsRow w.heap.size 39 14 (.slice ua m2 uc) m2 (factsL (ls)):=by have:=HCA.out.row;rw[←HM2.out] at this;exact this
            clear hal
            go_wp2_with (at_builtin;refine wpList_append_own_at _ rfl _ _ 22 rfl w.heap.size 39 i0 (.agg #[.int .i64 0,.int .i64 0,.int .i64 0,.int .i64 0,.int .i64 0,.int .i64 0,.int .i64 0,.int .i64 0,.int .i64 0,.int .i64 0,.int .i64 0,.int .i64 0,.int .i64 0,.float .f64 0]) 14 112 Tryz.underlying22 ei ez es eb rfl (by decide) _ _ _ rfl hrow ⟨wr.heap.size+1,0,none⟩ 1 1 (factL ⟨3,an,aq,(j:Int),0,0,0,0,0,0,ss,sh,0,0⟩) (by rfl) rfl (lit_cells (Blk.fresh _ _ _ _ (by simp))) (factL_one ⟨3,an,aq,(j:Int),0,0,0,0,0,0,ss,sh,0,0⟩) ?d3_5 ?d4_5 ?d5_5 ?_)
            case d3_5=>unfold maxLen;omega
            case d4_5=>omega
            case d5_5=>exact HCA.out.be.size
            intro v2 w7 hown hgrow _ hat;obtain⟨ua2,uc2,hu2⟩:=row_slice hown;subst hu2;have HC2:=qq (HCA.out.snoc (f:=⟨3,an,aq,(j:Int),0,0,0,0,0,0,ss,sh,0,0⟩) (Nat.le_refl _) (by rw[←HM2.out];exact hown) hgrow (by rw[World.size_alloc,World.size_alloc];exact hat));clear hown hgrow hat hrow HCA qc lc fc;go_wp2_with fail;go_roundw
            case rel=>exact⟨j+1,by omega,by go_num,qq (by rw[HT2.out,←List.append_assoc,←HLS.out];exact HC2.out)⟩
            case measure=>simp[intOf];omega
        · obtain rfl:nr=j:=by omega
          have hall:rs.take nr=rs:=List.take_of_length_le (by have:=HNR.out;omega);rw[HLS.out,hall] at HC HM2;clear hall hlt HLS;have hal1:actF ⟨an,aq,oc,dp,ex,pa,de,rs⟩=[⟨1,an,aq,0,0,0,0,oc,dp,pa,0,0,0,ex⟩] ++(enrF ⟨an,aq,oc,dp,ex,pa,de,rs⟩ 0 rs ++(seatF ⟨an,aq,oc,dp,ex,pa,de,rs⟩ 0 rs ++(if de=0 then[] else[⟨4,an,aq,0,0,0,0,0,0,0,0,0,de,0⟩]))):=rfl;have HACTF:=qq hal1;clear hal1
          have qx:=(HXB.out.below HC.out.be).cell;have hxw:xb<wr.heap.size:=by have:=HC.out.be.size;omega
          by_cases hde:de=0
          · have hd1:(de !=0)=false:=by simpa using hde
            rw[if_pos hde,List.append_nil] at HACTF;have HFIN:Hid ((List.take (k+1) S.acts).flatMap actF=(pl ++([⟨1,an,aq,0,0,0,0,oc,dp,pa,0,0,0,ex⟩]:List SFact) ++enrF ⟨an,aq,oc,dp,ex,pa,de,rs⟩ 0 rs) ++seatF ⟨an,aq,oc,dp,ex,pa,de,rs⟩ 0 rs):=qq (by rw[HTK.out,HACTF.out];simp only[List.append_assoc]);clear hde;go_wp2_with fail;go_roundw
            case rel=>exact⟨k+1,by omega,by go_num,qq (by rw[HFIN.out];exact HC.out.row),qq HC.out.be⟩
            case measure=>simp[intOf];omega
          · have hd1:(de !=0)=true:=by simpa using hde
            rw[if_neg hde] at HACTF;have HFIN:Hid ((List.take (k+1) S.acts).flatMap actF=((pl ++([⟨1,an,aq,0,0,0,0,oc,dp,pa,0,0,0,ex⟩]:List SFact) ++enrF ⟨an,aq,oc,dp,ex,pa,de,rs⟩ 0 rs) ++seatF ⟨an,aq,oc,dp,ex,pa,de,rs⟩ 0 rs) ++ [⟨4,an,aq,0,0,0,0,0,0,0,0,0,de,0⟩]):=qq (by rw[HTK.out,HACTF.out];simp only[List.append_assoc]);clear hde;go_wp2_with fail;clear qx;have HPL2:=HPL;clear HPL
            have HPL:Hid (((pl ++([⟨1,an,aq,0,0,0,0,oc,dp,pa,0,0,0,ex⟩]:List SFact) ++enrF ⟨an,aq,oc,dp,ex,pa,de,rs⟩ 0 rs) ++seatF ⟨an,aq,oc,dp,ex,pa,de,rs⟩ 0 rs).length=m2):=qq HM2.out.symm;obtain⟨ob,hob⟩:∃ob,ob=(Value.slice ua (m2) uc).ownBlock:=⟨_,rfl⟩
            have NC:ob≠some cb:=fun e=>HC.out.ne (by rw[←hob];exact e)
            have NX:ob≠some xb:=fun e=>by rw[hob] at e;have:=(HC.out.row.lt _ e).1;omega
            have HXW:=qq (HXB.out.below HC.out.be);have hzb:=HC.out.be.size;refine reg_startZ (fun w'=>KeepZ ob wr w'∧Below w.heap.size w w') (Below wr.heap.size wr) (by kernel_rfl) ⟨.of_below (Below.refl _ _).drew,bel_drew HC.out.be⟩ (Below.refl _ _).drew (fun _=>false) ?_;intro w9 hHeld hb9;refine takeX (d:=some 98) 0 rfl rfl hHeld (fun w' hS'=>by clear hS';go_simp;(try rfl)) ?_;simp only[puts]
            refine takeX (d:=some 99) 1 rfl rfl hHeld (fun w' hS'=>by clear hS';go_simp;(try rfl)) ?_;simp only[puts];refine takeX (d:=some 100) 2 rfl rfl hHeld (fun w' hS'=>by have qA:=(hS'.1.blk HC.out.blk NC).cell;clear hS';go_simp;(try rfl)) ?_;simp only[puts];refine takeX (d:=some 101) 3 rfl rfl hHeld (fun w' hS'=>by clear hS';go_simp;(try rfl)) ?_;simp only[puts]
            refine takeX (d:=some 102) 4 rfl rfl hHeld (fun w' hS'=>by clear hS';go_simp;(try rfl)) ?_;simp only[puts];refine takeX (d:=some 103) 5 rfl rfl hHeld (fun w' hS'=>by clear hS';go_simp;(try rfl)) ?_;simp only[puts];refine takeX (d:=some 104) 6 rfl rfl hHeld (fun w' hS'=>by have qA:=(hS'.1.blk HXW.out NX).cell;clear hS';go_simp;(try rfl)) ?_;simp only[puts]
            refine takeX (d:=some 105) 7 rfl rfl hHeld (fun w' hS'=>by clear hS';go_simp;(try rfl)) ?_;simp only[puts];have hb10:=hb9.alloc hb9.size (.cells #[.int .i64 4,an,aq,.int .i64 0,.int .i64 0,.int .i64 0,.int .i64 0,.int .i64 0,.int .i64 0,.int .i64 0,.int .i64 0,.int .i64 0,de,.float .f64 0] 39)
            refine new_X (d:=some 106) 8 (.slice (some ⟨w9.heap.size,0,none⟩) 1 1) #[.int .i64 4,.int .i64 an,.int .i64 aq,.int .i64 0,.int .i64 0,.int .i64 0,.int .i64 0,.int .i64 0,.int .i64 0,.int .i64 0,.int .i64 0,.int .i64 0,.int .i64 de,.float .f64 0] 39 rfl rfl (by go_simp) ⟨hHeld.1.alloc _,bel_alloc hHeld.2 _⟩ ?_;intro hS10 kF;simp only[puts]
            refine app_X (d:=some 107) 9 rfl rfl rfl (.tmp 98) (.tmp 106) 22 rfl w.heap.size 39 i0 (.agg #[.int .i64 0,.int .i64 0,.int .i64 0,.int .i64 0,.int .i64 0,.int .i64 0,.int .i64 0,.int .i64 0,.int .i64 0,.int .i64 0,.int .i64 0,.int .i64 0,.int .i64 0,.float .f64 0]) 14 112 Tryz.underlying22 ei ez es eb rfl (by decide) (.slice ua (m2) uc) (m2) (factsL ((pl ++([⟨1,an,aq,0,0,0,0,oc,dp,pa,0,0,0,ex⟩]:List SFact) ++enrF ⟨an,aq,oc,dp,ex,pa,de,rs⟩ 0 rs) ++seatF ⟨an,aq,oc,dp,ex,pa,de,rs⟩ 0 rs)) (by simp[Act.eval]) (row_be (by have:=HC.out.row;rw[HPL.out] at this;exact this) hb10) ⟨w9.heap.size,0,none⟩ 1 1 (factL ⟨4,an,aq,0,0,0,0,0,0,0,0,0,de,0⟩) (by rfl) rfl (lit_cells kF) (factL_one ⟨4,an,aq,0,0,0,0,0,0,0,0,0,de,0⟩) (by unfold maxLen;omega) (by omega) (by have:=hb10.size;omega) ?_
            intro v3 w11 hown hgrow hat;have HCN:=qq ((HC.out.below hb10).snoc (f:=⟨4,an,aq,0,0,0,0,0,0,0,0,0,de,0⟩) (Nat.le_refl _) (by rw[HPL.out];exact hown) hgrow hat);obtain⟨ua2,uc2,hu2⟩:=row_slice hown;subst hu2;have hHeld:KeepZ ob wr w11∧Below w.heap.size w w11:=⟨hS10.1.grown (by rw[hob];exact hgrow),HCN.out.be⟩
            clear hown hat hb10 kF hgrow;refine⟨.inr hHeld,?_⟩;simp only[puts];refine pure_X (d:=some 3) 10 rfl rfl hHeld (by go_simp;(try rfl)) ?_;simp only[puts];refine doneX (by kernel_rfl) ?_ _;clear hHeld hS10 hb9 NC NX hob HXW hzb HC;go_wp2_with fail;go_roundw
            case rel=>exact⟨k+1,by omega,by go_num,qq (by rw[HFIN.out];exact HCN.out.row),qq HCN.out.be⟩
            case measure=>simp[intOf];omega
  · obtain rfl:k=n:=by omega
    have hall:S.acts.take k=S.acts:=List.take_of_length_le (by have:=HN.out;omega);rw[hall] at HO HM;clear hall hlt;go_wp2_with fail;go_ret;exact⟨_,_,by rw[←HM.out];rfl,by rw[←HM.out];exact HO.out,HB.out⟩
theorem wpList_append_rows {w : World} {ops : Array Oper} {rest : List Oper} {o : Oper} {a : Act} {Q : Exit → Act → World → Prop} (hgd : o.guard = none) (s x : Operand) (t : TypeId)
    (ho:o.op=.call {callee:=.builtin .append,args:= #[s,x],argTypes:= #[t,t]})
    (base:Nat) (e:TypeId) (i:TypeInfo) (z:Value) (size bytes:Nat) (ht:Tryz.prog.underlying t=some (.slice e)) (hi:Tryz.prog.info? e=some i) (hz:i.zero=some z)
    (hsize:i.size=size) (hby:i.bytes=bytes) (hzs:z.cells.size=size) (hsz:0<size)
    (v:Value) (n:Nat) (xs:List Value) (hs:a.eval s=v) (hown:w.ownsRow base e size v n xs)
    (B2:Nat) (vx:Value) (m:Nat) (ys:List Value) (hx:a.eval x=vx) (hown2:w.ownsRow B2 e size vx m ys) (h1:∀u∈ys,u.oneCell'=true)
    (h63:n+m≤maxLen) (hbytes:(n+m)*bytes≤140737488355328) (hbase:base≤w.heap.size)
    (h:∀v' w',w'.ownsRow base e size v' (n+m) (xs ++ys)→w.grownBy w' v.ownBlock→(v'.ownBlock=v.ownBlock∨v'.ownBlock=some w.heap.size)→wpList Tryz.prog ops Q rest (a.put o.dst v') w'):wpList Tryz.prog ops Q (o::rest) a w:=by
 rcases hown2.2 with⟨hv,hm⟩ | ⟨g,cap,cur,hv,hg1,hg2,hle,hcap,hcs,htk⟩
 · subst hv hm;have hy:ys=[]:=List.length_eq_zero_iff.1 (by have:=hown2.1;omega);subst hy;refine wpList_append_own_none hgd s x t ho base e i size ht hi v n xs hs hown hx ?_;exact h v w (by rw[List.append_nil];exact hown) ⟨rfl,rfl,rfl,Nat.le_refl _,fun _ _ _=>rfl⟩ (.inl rfl)
 · subst hv;refine wpList_append_own_at w hgd s x t ho base e i z size bytes ht hi hz hsize hby hzs hsz v n xs hs hown ⟨g,0,none⟩ m cap ys hx hown2.1 (fun j u hu=> ?_) h1 h63 hbytes hbase (fun v' w' a1 a2 _ a4=>h v' w' a1 a2 a4);have hadd:((⟨g,0,none⟩:Addr).add j)=⟨g,j,none⟩:=by unfold Addr.add;split<;>simp_all
   rw[hadd];simp only[World.cell?,hg2];rw[←htk] at hu;have hj:=(List.getElem?_eq_some_iff.1 hu).1;rw[List.getElem?_take] at hu;split at hu
   · simpa using hu
   · cases hu
def FactsEnds (S:Sto) (w:World) (e:Ending) (w':World):Prop:=∃a c,e=.returned (.slice a (sfacts S).length c)∧w'.ownsRow w.heap.size 39 14 (.slice a (sfacts S).length c) (sfacts S).length (factsL (sfacts S))∧Below w.heap.size w w'
theorem factsL_one (fs:List SFact):∀u∈factsL fs,u.oneCell'=true:=flat_one factL factL_one fs
theorem factsL_append (l m:List SFact):factsL (l ++m)=factsL l ++factsL m:=by unfold factsL;rw[List.flatMap_append]
theorem facts_of (L:SLoc) (S:Sto) (w:World) (h:StoreAt L S w) (hG:StoGood S):Calls Tryz.prog 31 #[.pointer (some ⟨L.sb,0,none⟩)] w (FactsEnds S w):=by
 obtain⟨i0,ei,ez,es,eb⟩:=info_parts infoFactC;have HPF:=qq (partFacts_of L S w h hG);have HAF:=qq (fun W (hW:Below w.heap.size w W)=>actFacts_of L S W (h.below hW) hG);have HFI:=qq (fun W (hW:Below w.heap.size w W)=>find_of L S S.node (S.next - 1) W (h.below hW) hG);have HSB:=qq (fun W (hW:Below w.heap.size w W)=>(h.below hW).blk);have hnx:=hG.next;have hnd:=hG.node
 have hn1:(partsF 0 S.parts).length≤24:=by have h1:=partsF_len S.parts 0;have:=hG.parts;omega
 have hn2:(S.acts.flatMap actF).length≤112:=by have h1:=flatF_len S.acts (fun a ha=>(hG.act a ha).len);have:=hG.acts;omega
 have hsb:=h.blk.lt;have HLST:Hid (lastF S=if 0<S.next∧sfind S S.node (S.next - 1)=none then[⟨1,S.node,S.next - 1,0,0,0,0,1,0,0,0,0,0,0⟩,⟨5,S.node,S.next - 1,0,0,0,0,0,0,0,0,0,0,0⟩] else[]):=qq rfl;have HSF:Hid (sfacts S=partsF 0 S.parts ++(S.acts.flatMap actF ++lastF S)):=qq rfl
 have HLB:=qq (fun(i:Nat) (hi:sfind S S.node (S.next - 1)=some i)=>show ∃b,aptr L (some i)=.pointer (some ⟨b,0,none⟩) from by
   unfold sfind at hi;have hl:=(List.findIdx?_eq_some_iff_getElem.1 hi).1;have hl2:=h.len;unfold aptr;rw[Option.bind_some,List.getElem?_eq_getElem (by omega)];exact⟨_,rfl⟩)
 obtain⟨pf,hpf⟩:∃l,l=partsF 0 S.parts:=⟨_,rfl⟩
 obtain⟨af,haf⟩:∃l,l=S.acts.flatMap actF:=⟨_,rfl⟩
 obtain⟨n1,hn1e⟩:∃n,n=(partsF 0 S.parts).length:=⟨_,rfl⟩
 obtain⟨n2,hn2e⟩:∃n,n=(S.acts.flatMap actF).length:=⟨_,rfl⟩
 have HN1:Hid (n1=pf.length):=qq (by rw[hn1e,hpf]);have HN2:Hid (n2=af.length):=qq (by rw[hn2e,haf]);rw[←hn1e] at HPF hn1;rw[←hn2e] at HAF hn2;rw[←hpf] at HPF HSF;rw[←haf] at HAF HSF;clear h hG hpf haf hn1e hn2e;go_enter Tryz.func31,Tryz.ntmps31;go_wp2_with fail;refine HPF.out.mono ?_;rintro e w1 ⟨pa,pc,rfl,hown1,hb1⟩;have HO1:=qq hown1;have HB1:=qq hb1;clear hown1 hb1;go_wp2_with fail
 refine(HAF.out _ HB1.out).mono ?_;rintro e w2 ⟨aa,ac,rfl,hown2,hb2⟩;have HO2:=qq (row_mono hown2 HB1.out.size);have HR1:=qq (row_be HO1.out hb2);have HB2:=qq (below_then HB1.out hb2);clear hown2 hb2
 go_wp2_with (at_builtin;refine wpList_append_rows rfl _ _ 22 rfl w.heap.size 39 i0 (.agg #[.int .i64 0,.int .i64 0,.int .i64 0,.int .i64 0,.int .i64 0,.int .i64 0,.int .i64 0,.int .i64 0,.int .i64 0,.int .i64 0,.int .i64 0,.int .i64 0,.int .i64 0,.float .f64 0]) 14 112 Tryz.underlying22 ei ez es eb rfl (by decide) _ _ _ rfl HR1.out w.heap.size _ _ _ rfl HO2.out (factsL_one af) ?c3 ?c4 ?c5 ?_)
 case c3=>unfold maxLen;omega
 case c4=>omega
 case c5=>exact HB2.out.size
 intro v3 w3 hown hgrow hat;obtain⟨ua,uc,hu⟩:=row_slice hown;subst hu;have HO:=qq (show w3.ownsRow w.heap.size 39 14 (.slice ua (n1+n2) uc) (n1+n2) (factsL (pf ++af)) from by rw[factsL_append];exact hown);have HB:=qq (HB2.out.grown hgrow HB2.out.size (fun j hj=>(HR1.out.lt j hj).1));clear hown hgrow hat;obtain⟨ls,qs,fs⟩:=HSB.out _ HB.out;have hw3:=HB.out.size;go_wp2_with fail;go_region
 have hb4:Below w3.heap.size w3 (w3.alloc (.cells #[S.node,.int .i64 (S.next - 1)] 36)).drew:=bel_drew ((Below.refl _ _).alloc (Nat.le_refl _) _);have HO4:=qq (row_be HO.out hb4);have HB4:=qq (below_then HB.out hb4);have KA:=qq (show Blk (w3.alloc (.cells #[S.node,.int .i64 (S.next - 1)] 36)).drew w3.heap.size #[.int .i64 S.node,.int .i64 (S.next - 1)] from(Blk.fresh w3 _ _ _ rfl).drew)
 have hz4:(w3.alloc (.cells #[S.node,.int .i64 (S.next - 1)] 36)).drew.heap.size=w3.heap.size+1:=by simp
 clear ls qs fs hb4;obtain⟨w4,hw4⟩:∃x,x=(w3.alloc (.cells #[S.node,.int .i64 (S.next - 1)] 36)).drew:=⟨_,rfl⟩
 rw[←hw4] at HO4 HB4 KA hz4⊢;obtain⟨ab,hab⟩:∃x,x=w3.heap.size:=⟨_,rfl⟩
 rw[←hab] at KA hz4 hw3⊢;clear hw4 HO HB;obtain⟨ls,qs,fs⟩:=HSB.out _ HB4.out;obtain⟨lk,qk,fk⟩:=KA.out;clear hab;by_cases h0:0<S.next
 · go_wp2_with fail;refine(HFI.out _ HB4.out).mono ?_;rintro e w5 ⟨rfl,hb5⟩;have HO5:=qq (row_be HO4.out hb5);have HB5:=qq (below_then HB4.out hb5);have KA5:=qq (KA.out.below hb5);clear hb5 ls qs fs lk qk fk;obtain⟨lk,qk,fk⟩:=KA5.out
   cases hq:sfind S S.node (S.next - 1) with
   | some i=>
    have HFIN:Hid (sfacts S=pf ++af):=qq (by rw[HSF.out,HLST.out,if_neg (fun h=>by rw[hq] at h;cases h.2),List.append_nil]);obtain⟨b,hb⟩:=HLB.out i hq;rw[hb];clear hq hb;go_wp2_with fail;go_ret;exact⟨_,_,by rw[HFIN.out,List.length_append,←HN1.out,←HN2.out];rfl,by rw[HFIN.out,List.length_append,←HN1.out,←HN2.out];exact HO5.out,HB5.out⟩
   | none=>
    have HFIN:Hid (sfacts S=(pf ++af) ++ [⟨1,S.node,S.next - 1,0,0,0,0,1,0,0,0,0,0,0⟩,⟨5,S.node,S.next - 1,0,0,0,0,0,0,0,0,0,0,0⟩]):=qq (by rw[HSF.out,HLST.out,if_pos ⟨h0,hq⟩,List.append_assoc]);rw[show aptr L none=.pointer none from rfl];clear hq
    have hal:=(Below.refl w5.heap.size w5).alloc (Nat.le_refl _) (.cells #[.int .i64 1,S.node,.int .i64 (S.next - 1),.int .i64 0,.int .i64 0,.int .i64 0,.int .i64 0,.int .i64 1,.int .i64 0,.int .i64 0,.int .i64 0,.int .i64 0,.int .i64 0,.float .f64 0,.int .i64 5,S.node,.int .i64 (S.next - 1),.int .i64 0,.int .i64 0,.int .i64 0,.int .i64 0,.int .i64 0,.int .i64 0,.int .i64 0,.int .i64 0,.int .i64 0,.int .i64 0,.float .f64 0] 39)
    have hrow:=row_be HO5.out hal;have HBA:=qq (below_then HB5.out hal);clear hal
    go_wp2_with (at_builtin;refine wpList_append_own_at _ rfl _ _ 22 rfl w.heap.size 39 i0 (.agg #[.int .i64 0,.int .i64 0,.int .i64 0,.int .i64 0,.int .i64 0,.int .i64 0,.int .i64 0,.int .i64 0,.int .i64 0,.int .i64 0,.int .i64 0,.int .i64 0,.int .i64 0,.float .f64 0]) 14 112 Tryz.underlying22 ei ez es eb rfl (by decide) _ _ _ rfl hrow ⟨w5.heap.size,0,none⟩ 2 2 (factsL [⟨1,S.node,S.next - 1,0,0,0,0,1,0,0,0,0,0,0⟩,⟨5,S.node,S.next - 1,0,0,0,0,0,0,0,0,0,0,0⟩]) (by rfl) rfl (lit_cells (Blk.fresh _ _ _ _ rfl)) (factsL_one [⟨1,S.node,S.next - 1,0,0,0,0,1,0,0,0,0,0,0⟩,⟨5,S.node,S.next - 1,0,0,0,0,0,0,0,0,0,0,0⟩]) ?d3 ?d4 ?d5 ?_)
    case d3=>unfold maxLen;omega
    case d4=>omega
    case d5=>exact HBA.out.size
    intro v6 w6 hown hgrow _ _;obtain⟨ua2,uc2,hu2⟩:=row_slice hown;subst hu2;have HO6:=qq (show w6.ownsRow w.heap.size 39 14 (.slice ua2 (n1+n2+2) uc2) (n1+n2+2) (factsL ((pf ++af) ++ [⟨1,S.node,S.next - 1,0,0,0,0,1,0,0,0,0,0,0⟩,⟨5,S.node,S.next - 1,0,0,0,0,0,0,0,0,0,0,0⟩])) from by rw[factsL_append];exact hown);have HB6:=qq (HBA.out.grown hgrow HBA.out.size (fun j hj=>(HO5.out.lt j hj).1))
    clear hown hgrow hrow lk qk fk;go_wp2_with fail;go_ret;have hlen:(sfacts S).length=n1+n2+2:=by rw[HFIN.out,List.length_append,List.length_append,←HN1.out,←HN2.out];rfl
    exact⟨_,_,by rw[hlen];rfl,by rw[hlen,HFIN.out];exact HO6.out,HB6.out⟩
 · have HFIN:Hid (sfacts S=pf ++af):=qq (by rw[HSF.out,HLST.out,if_neg (fun h=>h0 h.1),List.append_nil]);go_wp2_with fail;go_ret;exact⟨_,_,by rw[HFIN.out,List.length_append,←HN1.out,←HN2.out];rfl,by rw[HFIN.out,List.length_append,←HN1.out,←HN2.out];exact HO4.out,HB4.out⟩
theorem call_Z {P : Program} {ops : Array Oper} {Q : Exit → Act → World → Prop} {md : Region.Mode} {S : World → Prop} {ex : Nat → Bool} {fuel : Nat} {listed : Array Bool} {a : Act} {w : World} {oi : Oper} {d : Option Tmp} (i : Nat) (f : Nat) (argsO : Array Operand) (ts : Array TypeId) (args : List Value) (hi : ops[i]? = some oi) (hd : oi.dst = d)
    (hop:oi.op=Op.call {callee:=Callee.value (Operand.func f),args:=argsO,argTypes:=ts}) (he:Enters P f) (hw:Region.wanted oi (yielded ops a.tmps)=true) (hargs:argsO.toList.map a.eval=args)
    (h:Calls P f args.toArray w (fun e w'=>∃v,e=.returned v∧(ex i=true∨S w')∧wpAnyX P md ops Q ex S fuel (listed.setIfInBounds i true) (a.put d v) w'))
    (hr:Region.ready md ops listed=[i]:=by kernel_rfl):wpAnyX P md ops Q ex S (fuel+1) listed a w:=
 one_X i hr (wpOp_call i f argsO ts args hi hd hop he hw hargs h)
theorem sregNe (rn rp sp sd ss sh:Int) (w:World):(binOp .neq 55 (.agg #[rn,rp,sp,sd,ss,sh]) (.agg #[rn,rp,sp,sd,ss,sh])).run Tryz.prog w=.ok (.bool false) w:=by
 go_simp
theorem eqReg_of (a1 a2 : Option Addr) (n c1 c2 : Nat) (rs : List SReg) (B1 B2 : Nat) (T1 T2 : TypeId) (w : World) (hn : n = rs.length) (h1 : w.ownsRow B1 T1 6 (.slice a1 n c1) n (regsL rs)) (h2 : w.ownsRow B2 T2 6 (.slice a2 n c2) n (regsL rs)) (hl : n ≤ 1000) :
    Calls Tryz.prog 115 #[.slice a1 n c1,.slice a2 n c2] w (Makes (.bool true) w):=by
 have G:∀(B:Nat) (T:TypeId) (v:Option Addr) (vc:Nat),w.ownsRow B T 6 (.slice v n vc) n (regsL rs)→Hid (∀k,k<n→∃r,rs[k]? =some r∧∃b,v=some ⟨b,0,none⟩∧b<w.heap.size∧RegC w b (k*6) r):=fun B T v vc h=>qq (fun k hk=>by
   obtain⟨a',cap',hv,_,hr⟩:=reg_row h;obtain⟨g,ha,hg,_,hc⟩:=hr (by omega);simp only[Value.slice.injEq,true_and] at hv;exact⟨rs[k],List.getElem?_eq_getElem (by omega),g,by rw[hv.1,ha],hg,hc k _ (List.getElem?_eq_getElem (by omega))⟩)
 have H1:=G _ _ _ _ h1;have H2:=G _ _ _ _ h2;clear G h1 h2 hn;go_enter Tryz.func115,Tryz.ntmps115;go_wp2_with fail;go_loopw [13] (fun i wr=>∃k:Nat,k≤n∧i=.int .i64 (k:Nat)∧Below w.heap.size w wr) (fun i _=>n - (intOf i).toNat)
 case atStart=>exact⟨0,by omega,by first | rfl | go_num,Below.refl _ _⟩
 case round=>
  obtain⟨k,hk,rfl,hB⟩:=hrel;by_cases hlt:k<n
  · obtain⟨f,hf,b1,rfl,hl1',hc1⟩:=H1.out k hlt;obtain⟨f',hf',b2,rfl,hl2',hc2⟩:=H2.out k hlt;obtain rfl:f=f':=by rw[hf] at hf';injection hf'
    have c1:=hc1.below hB hl1';have c2:=hc2.below hB hl2';have hki:(k:Int)<(n:Int):=by omega
    have hk0:(0:Int)≤(k:Int):=by omega
    have hw1:b1<wr.heap.size:=Nat.lt_of_lt_of_le hl1' hB.size;have hw2:b2<wr.heap.size:=Nat.lt_of_lt_of_le hl2' hB.size;clear hf hf' hc1 hc2 hlt;obtain⟨rn,rp,⟨sp,sd,ss,sh⟩⟩:=f;obtain⟨p0,p1,p2,p3,p4,p5⟩:=c1;obtain⟨r0,r1,r2,r3,r4,r5⟩:=c2;dsimp only at p0 p1 p2 p3 p4 p5 r0 r1 r2 r3 r4 r5;have hne:=sregNe rn rp sp sd ss sh;go_wp2_with fail;go_quiet (fail)
    all_goals go_wp2_with fail
    all_goals (go_roundw<;>first | exact⟨k+1,by omega,by go_num,below_then hB ⟨rfl,rfl,rfl,Nat.le_refl _,fun _ _=>rfl⟩⟩ | (simp[intOf];omega))
  · obtain rfl:k=n:=by omega
    go_wp2_with fail;go_ret;exact⟨rfl,hB⟩
theorem spartNe (an aq rg sp sd ss sh:Int) (w:World):(binOp .neq 61 (.agg #[an,aq,rg,sp,sd,ss,sh]) (.agg #[an,aq,rg,sp,sd,ss,sh])).run Tryz.prog w=.ok (.bool false) w:=by
 go_simp
theorem eqPart_of (a1 a2 : Option Addr) (n c1 c2 : Nat) (rs : List SPart) (B1 B2 : Nat) (T1 T2 : TypeId) (w : World) (hn : n = rs.length) (h1 : w.ownsRow B1 T1 7 (.slice a1 n c1) n (partsL rs)) (h2 : w.ownsRow B2 T2 7 (.slice a2 n c2) n (partsL rs)) (hl : n ≤ 1000) :
    Calls Tryz.prog 116 #[.slice a1 n c1,.slice a2 n c2] w (Makes (.bool true) w):=by
 have G:∀(B:Nat) (T:TypeId) (v:Option Addr) (vc:Nat),w.ownsRow B T 7 (.slice v n vc) n (partsL rs)→Hid (∀k,k<n→∃r,rs[k]? =some r∧∃b,v=some ⟨b,0,none⟩∧b<w.heap.size∧PartC w b (k*7) r):=fun B T v vc h=>qq (fun k hk=>by
   obtain⟨a',cap',hv,_,hr⟩:=part_row h;obtain⟨g,ha,hg,_,hc⟩:=hr (by omega);simp only[Value.slice.injEq,true_and] at hv;exact⟨rs[k],List.getElem?_eq_getElem (by omega),g,by rw[hv.1,ha],hg,hc k _ (List.getElem?_eq_getElem (by omega))⟩)
 have H1:=G _ _ _ _ h1;have H2:=G _ _ _ _ h2;clear G h1 h2 hn;go_enter Tryz.func116,Tryz.ntmps116;go_wp2_with fail;go_loopw [13] (fun i wr=>∃k:Nat,k≤n∧i=.int .i64 (k:Nat)∧Below w.heap.size w wr) (fun i _=>n - (intOf i).toNat)
 case atStart=>exact⟨0,by omega,by first | rfl | go_num,Below.refl _ _⟩
 case round=>
  obtain⟨k,hk,rfl,hB⟩:=hrel;by_cases hlt:k<n
  · obtain⟨f,hf,b1,rfl,hl1',hc1⟩:=H1.out k hlt;obtain⟨f',hf',b2,rfl,hl2',hc2⟩:=H2.out k hlt;obtain rfl:f=f':=by rw[hf] at hf';injection hf'
    have c1:=hc1.below hB hl1';have c2:=hc2.below hB hl2';have hki:(k:Int)<(n:Int):=by omega
    have hk0:(0:Int)≤(k:Int):=by omega
    have hw1:b1<wr.heap.size:=Nat.lt_of_lt_of_le hl1' hB.size;have hw2:b2<wr.heap.size:=Nat.lt_of_lt_of_le hl2' hB.size;clear hf hf' hc1 hc2 hlt;obtain⟨an,aq,rg,⟨sp,sd,ss,sh⟩⟩:=f;obtain⟨p0,p1,p2,p3,p4,p5,p6⟩:=c1;obtain⟨r0,r1,r2,r3,r4,r5,r6⟩:=c2;dsimp only at p0 p1 p2 p3 p4 p5 p6 r0 r1 r2 r3 r4 r5 r6;have hne:=spartNe an aq rg sp sd ss sh;go_wp2_with fail;go_quiet (fail)
    all_goals go_wp2_with fail
    all_goals (go_roundw<;>first | exact⟨k+1,by omega,by go_num,below_then hB ⟨rfl,rfl,rfl,Nat.le_refl _,fun _ _=>rfl⟩⟩ | (simp[intOf];omega))
  · obtain rfl:k=n:=by omega
    go_wp2_with fail;go_ret;exact⟨rfl,hB⟩
theorem scopeSame_of (cn cq co cd:Int) (cx:Nat) (w:World) (hx:F64 cx):Calls Tryz.prog 114 #[.agg #[cn,cq,co,cd,.float .f64 cx],.agg #[cn,cq,co,cd,.float .f64 cx]] w (Makes (.bool true) w):=by
 have HB1:=qq (fun W=>bits_of cx hx W);obtain⟨p,hp⟩:∃p:Int,p=(fplain cx:Nat):=⟨_,rfl⟩
 rw[←hp] at HB1;clear hx hp;go_enter Tryz.func114,Tryz.ntmps114;go_wp2_with fail
 refine reg_startZ (fun w'=>Blk w' (w.heap.size) #[cn,cq,co,cd,.float .f64 cx]∧Blk w' (w.heap.size+1) #[cn,cq,co,cd,.float .f64 cx]∧Below w.heap.size w w') (fun _=>True) (by kernel_rfl) ⟨((Blk.fresh _ _ _ (w.heap.size) (by simp)).alloc _).drew,(Blk.fresh _ _ _ (w.heap.size+1) (by simp)).drew,(bel_drew (bel_alloc (bel_alloc (Below.refl w.heap.size w) _) _))⟩ True.intro (fun _=>false) ?_
 rintro w1 hHeld -;refine takeX (d:=some 5) 0 rfl rfl hHeld (fun w' hS'=>by clear hS';go_simp;(try rfl)) ?_;simp only[puts];refine takeX (d:=some 6) 1 rfl rfl hHeld (fun w' hS'=>by have qA:=hS'.1.cell;clear hS';go_simp;(try rfl)) ?_;simp only[puts];refine takeX (d:=some 7) 2 rfl rfl hHeld (fun w' hS'=>by clear hS';go_simp;(try rfl)) ?_;simp only[puts]
 refine takeX (d:=some 8) 3 rfl rfl hHeld (fun w' hS'=>by have qA:=hS'.2.1.cell;clear hS';go_simp;(try rfl)) ?_;simp only[puts];refine takeX (d:=some 9) 4 rfl rfl hHeld (fun w' hS'=>by clear hS';go_simp;(try rfl)) ?_;simp only[puts];refine takeX (d:=some 10) 5 rfl rfl hHeld (fun w' hS'=>by clear hS';go_simp;(try rfl)) ?_;simp only[puts]
 refine takeX (d:=some 11) 6 rfl rfl hHeld (fun w' hS'=>by clear hS';go_simp;(try rfl)) ?_;simp only[puts];refine takeX (d:=some 12) 7 rfl rfl hHeld (fun w' hS'=>by have qA:=hS'.1.cell;clear hS';go_simp;(try rfl)) ?_;simp only[puts];refine takeX (d:=some 13) 8 rfl rfl hHeld (fun w' hS'=>by clear hS';go_simp;(try rfl)) ?_;simp only[puts]
 refine takeX (d:=some 14) 9 rfl rfl hHeld (fun w' hS'=>by have qA:=hS'.2.1.cell;clear hS';go_simp;(try rfl)) ?_;simp only[puts];refine takeX (d:=some 15) 10 rfl rfl hHeld (fun w' hS'=>by clear hS';go_simp;(try rfl)) ?_;simp only[puts];refine takeX (d:=some 16) 11 rfl rfl hHeld (fun w' hS'=>by clear hS';go_simp;(try rfl)) ?_;simp only[puts]
 refine takeX (d:=some 17) 12 rfl rfl hHeld (fun w' hS'=>by clear hS';go_simp;(try rfl)) ?_;simp only[puts];refine takeX (d:=some 18) 13 rfl rfl hHeld (fun w' hS'=>by clear hS';go_simp;(try rfl)) ?_;simp only[puts];refine takeX (d:=some 19) 14 rfl rfl hHeld (fun w' hS'=>by have qA:=hS'.1.cell;clear hS';go_simp;(try rfl)) ?_;simp only[puts]
 refine takeX (d:=some 20) 15 rfl rfl hHeld (fun w' hS'=>by clear hS';go_simp;(try rfl)) ?_;simp only[puts];refine takeX (d:=some 21) 16 rfl rfl hHeld (fun w' hS'=>by have qA:=hS'.2.1.cell;clear hS';go_simp;(try rfl)) ?_;simp only[puts];refine takeX (d:=some 22) 17 rfl rfl hHeld (fun w' hS'=>by clear hS';go_simp;(try rfl)) ?_;simp only[puts]
 refine takeX (d:=some 23) 18 rfl rfl hHeld (fun w' hS'=>by clear hS';go_simp;(try rfl)) ?_;simp only[puts];refine takeX (d:=some 24) 19 rfl rfl hHeld (fun w' hS'=>by clear hS';go_simp;(try rfl)) ?_;simp only[puts];refine takeX (d:=some 25) 20 rfl rfl hHeld (fun w' hS'=>by clear hS';go_simp;(try rfl)) ?_;simp only[puts]
 refine takeX (d:=some 26) 21 rfl rfl hHeld (fun w' hS'=>by have qA:=hS'.1.cell;clear hS';go_simp;(try rfl)) ?_;simp only[puts];refine takeX (d:=some 28) 23 rfl rfl hHeld (fun w' hS'=>by clear hS';go_simp;(try rfl)) ?_;simp only[puts];refine takeX (d:=some 29) 24 rfl rfl hHeld (fun w' hS'=>by have qA:=hS'.2.1.cell;clear hS';go_simp;(try rfl)) ?_;simp only[puts]
 refine call_Z (d:=some 27) 22 217 _ _ [flV cx] rfl rfl rfl (enters_of Tryz.func217 (by kernel_rfl) rfl) (by rfl) (by rfl) ?_;refine(HB1.out _).mono ?_;rintro e w22 ⟨rfl,rfl⟩;refine⟨_,rfl,.inr hHeld,?_⟩;simp only[puts];refine call_Z (d:=some 30) 25 217 _ _ [flV cx] rfl rfl rfl (enters_of Tryz.func217 (by kernel_rfl) rfl) (by rfl) (by rfl) ?_;refine(HB1.out _).mono ?_;rintro e w25 ⟨rfl,rfl⟩
 refine⟨_,rfl,.inr hHeld,?_⟩;simp only[puts];refine takeX (d:=some 31) 26 rfl rfl hHeld (fun w' hS'=>by clear hS';go_simp;(try rfl)) ?_;simp only[puts];refine takeX (d:=some 32) 27 rfl rfl hHeld (fun w' hS'=>by clear hS';go_simp;(try rfl)) ?_;simp only[puts];refine takeX (d:=some 4) 28 rfl rfl hHeld (fun w' hS'=>by clear hS';go_simp;(try rfl)) ?_;simp only[puts];refine doneX (by kernel_rfl) ?_ _
 have HBE:=qq hHeld.2.2;clear hHeld;go_wp2_with fail;go_ret;exact⟨rfl,HBE.out⟩
theorem same1_of (b1 b2 : Nat) (an aq oc dp : Int) (ex : Nat) (pa de : Int) (va1 va2 : Option Addr) (n vc1 vc2 : Nat) (rs : List SReg) (w : World) (h1 : Blk w b1 #[an, aq, oc, dp, .float .f64 ex, pa, de, .slice va1 n vc1]) (h2 : Blk w b2 #[an, aq, oc, dp, .float .f64 ex, pa, de, .slice va2 n vc2]) (hN : n = rs.length)
    (r1:w.ownsRow 0 55 6 (.slice va1 n vc1) n (regsL rs)) (r2:w.ownsRow 0 55 6 (.slice va2 n vc2) n (regsL rs)) (hx:F64 ex) (hn:n≤1000):Calls Tryz.prog 113 #[.pointer (some ⟨b1,0,none⟩),.pointer (some ⟨b2,0,none⟩)] w (Makes (.bool true) w):=by
 have HK1:=qq (fun W (hW:Below w.heap.size w W)=>h1.below hW);have HK2:=qq (fun W (hW:Below w.heap.size w W)=>h2.below hW);have HR1:=qq r1;have HR2:=qq r2;have HX:=qq hx;have HN:=qq hN;have l1:=h1.lt;have l2:=h2.lt;clear h1 h2 r1 r2 hx hN;go_enter Tryz.func113,Tryz.ntmps113;go_wp2_with fail
 refine reg_startZ (Below w.heap.size w) (fun _=>True) (by kernel_rfl) (bel_drew (Below.refl _ _)) True.intro (fun _=>false) ?_;rintro w1 hHeld -;refine takeX (d:=some 5) 0 rfl rfl hHeld (fun w' hS'=>by clear hS';go_simp;(try rfl)) ?_;simp only[puts];refine takeX (d:=some 6) 1 rfl rfl hHeld (fun w' hS'=>by clear hS';go_simp;(try rfl)) ?_;simp only[puts]
 refine takeX (d:=some 7) 2 rfl rfl hHeld (fun w' hS'=>by clear hS';go_simp;(try rfl)) ?_;simp only[puts];refine takeX (d:=some 8) 3 rfl rfl hHeld (fun w' hS'=>by have qA:=(HK1.out _ hS').cell;clear hS';go_simp;(try rfl)) ?_;simp only[puts];refine takeX (d:=some 9) 4 rfl rfl hHeld (fun w' hS'=>by clear hS';go_simp;(try rfl)) ?_;simp only[puts]
 refine takeX (d:=some 10) 5 rfl rfl hHeld (fun w' hS'=>by clear hS';go_simp;(try rfl)) ?_;simp only[puts];refine takeX (d:=some 11) 6 rfl rfl hHeld (fun w' hS'=>by clear hS';go_simp;(try rfl)) ?_;simp only[puts];refine takeX (d:=some 12) 7 rfl rfl hHeld (fun w' hS'=>by have qA:=(HK2.out _ hS').cell;clear hS';go_simp;(try rfl)) ?_;simp only[puts]
 refine call_Z (d:=some 13) 8 114 _ _ [.agg #[an,aq,oc,dp,.float .f64 ex],.agg #[an,aq,oc,dp,.float .f64 ex]] rfl rfl rfl (enters_of Tryz.func114 (by kernel_rfl) rfl) (by rfl) (by rfl) ?_;refine(scopeSame_of an aq oc dp ex _ HX.out).mono ?_;rintro e w28 ⟨rfl,hb⟩;replace hHeld:=below_then hHeld hb;clear hb;refine⟨_,rfl,.inr hHeld,?_⟩;simp only[puts]
 refine takeX (d:=some 14) 9 rfl rfl hHeld (fun w' hS'=>by clear hS';go_simp;(try rfl)) ?_;simp only[puts];refine takeX (d:=some 15) 10 rfl rfl hHeld (fun w' hS'=>by clear hS';go_simp;(try rfl)) ?_;simp only[puts];refine takeX (d:=some 16) 11 rfl rfl hHeld (fun w' hS'=>by clear hS';go_simp;(try rfl)) ?_;simp only[puts]
 refine takeX (d:=some 17) 12 rfl rfl hHeld (fun w' hS'=>by clear hS';go_simp;(try rfl)) ?_;simp only[puts];refine takeX (d:=some 18) 13 rfl rfl hHeld (fun w' hS'=>by have qA:=(HK1.out _ hS').cell;clear hS';go_simp;(try rfl)) ?_;simp only[puts];refine takeX (d:=some 19) 14 rfl rfl hHeld (fun w' hS'=>by clear hS';go_simp;(try rfl)) ?_;simp only[puts]
 refine takeX (d:=some 20) 15 rfl rfl hHeld (fun w' hS'=>by clear hS';go_simp;(try rfl)) ?_;simp only[puts];refine takeX (d:=some 21) 16 rfl rfl hHeld (fun w' hS'=>by clear hS';go_simp;(try rfl)) ?_;simp only[puts];refine takeX (d:=some 22) 17 rfl rfl hHeld (fun w' hS'=>by have qA:=(HK2.out _ hS').cell;clear hS';go_simp;(try rfl)) ?_;simp only[puts]
 refine takeX (d:=some 23) 18 rfl rfl hHeld (fun w' hS'=>by clear hS';go_simp;(try rfl)) ?_;simp only[puts];refine takeX (d:=some 24) 19 rfl rfl hHeld (fun w' hS'=>by clear hS';go_simp;(try rfl)) ?_;simp only[puts];refine takeX (d:=some 25) 20 rfl rfl hHeld (fun w' hS'=>by clear hS';go_simp;(try rfl)) ?_;simp only[puts]
 refine takeX (d:=some 26) 21 rfl rfl hHeld (fun w' hS'=>by clear hS';go_simp;(try rfl)) ?_;simp only[puts];refine takeX (d:=some 27) 22 rfl rfl hHeld (fun w' hS'=>by clear hS';go_simp;(try rfl)) ?_;simp only[puts];refine takeX (d:=some 28) 23 rfl rfl hHeld (fun w' hS'=>by clear hS';go_simp;(try rfl)) ?_;simp only[puts]
 refine takeX (d:=some 29) 24 rfl rfl hHeld (fun w' hS'=>by have qA:=(HK1.out _ hS').cell;clear hS';go_simp;(try rfl)) ?_;simp only[puts];refine takeX (d:=some 30) 25 rfl rfl hHeld (fun w' hS'=>by clear hS';go_simp;(try rfl)) ?_;simp only[puts];refine takeX (d:=some 31) 26 rfl rfl hHeld (fun w' hS'=>by clear hS';go_simp;(try rfl)) ?_;simp only[puts]
 refine takeX (d:=some 32) 27 rfl rfl hHeld (fun w' hS'=>by clear hS';go_simp;(try rfl)) ?_;simp only[puts];refine takeX (d:=some 33) 28 rfl rfl hHeld (fun w' hS'=>by have qA:=(HK2.out _ hS').cell;clear hS';go_simp;(try rfl)) ?_;simp only[puts];refine takeX (d:=some 34) 29 rfl rfl hHeld (fun w' hS'=>by clear hS';go_simp;(try rfl)) ?_;simp only[puts]
 refine takeX (d:=some 35) 30 rfl rfl hHeld (fun w' hS'=>by clear hS';go_simp;(try rfl)) ?_;simp only[puts];refine takeX (d:=some 36) 31 rfl rfl hHeld (fun w' hS'=>by clear hS';go_simp;(try rfl)) ?_;simp only[puts];refine takeX (d:=some 37) 32 rfl rfl hHeld (fun w' hS'=>by clear hS';go_simp;(try rfl)) ?_;simp only[puts]
 refine takeX (d:=some 38) 33 rfl rfl hHeld (fun w' hS'=>by clear hS';go_simp;(try rfl)) ?_;simp only[puts];refine takeX (d:=some 39) 34 rfl rfl hHeld (fun w' hS'=>by clear hS';go_simp;(try rfl)) ?_;simp only[puts];refine takeX (d:=some 40) 35 rfl rfl hHeld (fun w' hS'=>by have qA:=(HK1.out _ hS').cell;clear hS';go_simp;(try rfl)) ?_;simp only[puts]
 refine takeX (d:=some 41) 36 rfl rfl hHeld (fun w' hS'=>by clear hS';go_simp;(try rfl)) ?_;simp only[puts];refine takeX (d:=some 42) 37 rfl rfl hHeld (fun w' hS'=>by clear hS';go_simp;(try rfl)) ?_;simp only[puts];refine takeX (d:=some 43) 38 rfl rfl hHeld (fun w' hS'=>by clear hS';go_simp;(try rfl)) ?_;simp only[puts]
 refine takeX (d:=some 44) 39 rfl rfl hHeld (fun w' hS'=>by have qA:=(HK2.out _ hS').cell;clear hS';go_simp;(try rfl)) ?_;simp only[puts];refine call_Z (d:=some 45) 40 115 _ _ [.slice va1 n vc1,.slice va2 n vc2] rfl rfl rfl (enters_of Tryz.func115 (by kernel_rfl) rfl) (by rfl) (by rfl) ?_
 refine(eqReg_of va1 va2 n vc1 vc2 rs 0 0 _ _ _ HN.out (row_be HR1.out hHeld) (row_be HR2.out hHeld) hn).mono ?_;rintro e w60 ⟨rfl,hb⟩;replace hHeld:=below_then hHeld hb;clear hb;refine⟨_,rfl,.inr hHeld,?_⟩;simp only[puts];refine takeX (d:=some 46) 41 rfl rfl hHeld (fun w' hS'=>by clear hS';go_simp;(try rfl)) ?_;simp only[puts]
 refine takeX (d:=some 4) 42 rfl rfl hHeld (fun w' hS'=>by clear hS';go_simp;(try rfl)) ?_;simp only[puts];refine doneX (by kernel_rfl) ?_ _;have HBE:=qq hHeld;clear hHeld;go_wp2_with fail;go_ret;exact⟨rfl,HBE.out⟩
theorem eqFunc_of (a1 a2 : Option Addr) (n c1 c2 : Nat) (ab1 ab2 : List (Nat × Value)) (w : World) (h1 : w.ownsRow 0 159 1 (.slice a1 n c1) n (ptrs ab1)) (h2 : w.ownsRow 0 159 1 (.slice a2 n c2) n (ptrs ab2)) (hn : n ≤ 1000)
    (hS:∀(k:Nat) (x y:Nat×Value),ab1[k]? =some x→ab2[k]? =some y→∀W,Below w.heap.size w W→Calls Tryz.prog 113 #[.pointer (some ⟨x.1,0,none⟩),.pointer (some ⟨y.1,0,none⟩)] W (Makes (.bool true) W)):
    Calls Tryz.prog 117 #[.slice a1 n c1,.slice a2 n c2,.func (.func 113) #[] #[]] w (Makes (.bool true) w):=by
 obtain⟨b1,d1,e1,hl1,hr1⟩:=ptr_row h1;obtain⟨b2,d2,e2,hl2,hr2⟩:=ptr_row h2;simp only[Value.slice.injEq,true_and] at e1 e2;obtain⟨rfl,rfl⟩:=e1;obtain⟨rfl,rfl⟩:=e2;have HS:=qq hS;have H1:=qq hr1;have H2:=qq hr2;have HL1:=qq hl1;have HL2:=qq hl2;clear h1 h2 hS hr1 hr2 hl1 hl2;go_enter Tryz.func117,Tryz.ntmps117;go_wp2_with fail
 go_loopw [17] (fun i wr=>∃k:Nat,k≤n∧i=.int .i64 (k:Nat)∧Below w.heap.size w wr) (fun i _=>n - (intOf i).toNat)
 case atStart=>exact⟨0,by omega,by first | rfl | go_num,Below.refl _ _⟩
 case round=>
  obtain⟨k,hk,rfl,hB⟩:=hrel;by_cases hlt:k<n
  · obtain⟨g1,rfl,hg1,_,hp1⟩:=H1.out (by omega);obtain⟨g2,rfl,hg2,_,hp2⟩:=H2.out (by omega);obtain⟨x,hx⟩:∃x,ab1[k]? =some x:=⟨_,List.getElem?_eq_getElem (by have:=HL1.out;omega)⟩
    obtain⟨y,hy⟩:∃y,ab2[k]? =some y:=⟨_,List.getElem?_eq_getElem (by have:=HL2.out;omega)⟩
    have q1:=(hB.cell (p:=⟨g1,k,none⟩) hg1).trans (hp1 k x hx);have q2:=(hB.cell (p:=⟨g2,k,none⟩) hg2).trans (hp2 k y hy);have HC:=qq (HS.out k x y hx hy wr hB);have hki:(k:Int)<(n:Int):=by omega
    have hk0:(0:Int)≤(k:Int):=by omega
    have hw1:g1<wr.heap.size:=Nat.lt_of_lt_of_le hg1 hB.size;have hw2:g2<wr.heap.size:=Nat.lt_of_lt_of_le hg2 hB.size;clear hp1 hp2 hx hy;go_wp2_with fail;refine HC.out.mono ?_;rintro e w3 ⟨rfl,hb3⟩;have B3:=below_then hB hb3;clear hb3 q1 q2;go_wp2_with fail
    all_goals (go_roundw<;>first | exact⟨k+1,by omega,by go_num,B3⟩ | (simp[intOf];omega))
  · obtain rfl:k=n:=by omega
    go_wp2_with fail;go_ret;exact⟨rfl,hB⟩
theorem ssame_of (L L2:SLoc) (St:Sto) (w:World) (h1:StoreAt L St w) (h2:StoreAt L2 St w) (hG:StoGood St) (hx:∀a∈St.acts,F64 a.ex):Calls Tryz.prog 32 #[.pointer (some ⟨L.sb,0,none⟩),.pointer (some ⟨L2.sb,0,none⟩)] w (Makes (.bool true) w):=by
 obtain⟨pa1,pc1,e1⟩:=row_slice h1.parts;obtain⟨pa2,pc2,e2⟩:=row_slice h2.parts;obtain⟨aa1,ac1,e3⟩:=row_slice h1.acts;obtain⟨aa2,ac2,e4⟩:=row_slice h2.acts;obtain⟨np,hnp⟩:∃n,n=St.parts.length:=⟨_,rfl⟩
 obtain⟨na,hna⟩:∃n,n=St.acts.length:=⟨_,rfl⟩
 have hp8:=hG.parts;have ha8:=hG.acts;rw[←hnp] at e1 e2 hp8;rw[←hna] at e3 e4 ha8;have HEP:=qq (fun W (hW:Below w.heap.size w W)=>eqPart_of pa1 pa2 np pc1 pc2 St.parts 0 0 _ _ W hnp (by have:=(h1.below hW).parts;rw[e1,←hnp] at this;exact this) (by have:=(h2.below hW).parts;rw[e2,←hnp] at this;exact this) (by omega))
 have HEA:=qq (fun W (hW:Below w.heap.size w W)=>eqFunc_of aa1 aa2 na ac1 ac2 L.ab L2.ab W (by have:=(h1.below hW).acts;rw[e3,←hna] at this;exact this) (by have:=(h2.below hW).acts;rw[e4,←hna] at this;exact this) (by omega) (fun k x y hkx hky W' hW'=>by
   have hk:=(List.getElem?_eq_some_iff.1 hkx).1;rw[h1.len] at hk;have ha:St.acts[k]? =some St.acts[k]:=List.getElem?_eq_getElem hk;obtain⟨k1,r1⟩:=((h1.below hW).below hW').act k x _ hkx ha;obtain⟨k2,r2⟩:=((h2.below hW).below hW').act k y _ hky ha;obtain⟨va1,vc1,hv1⟩:=row_slice r1;obtain⟨va2,vc2,hv2⟩:=row_slice r2;rw[hv1] at k1 r1;rw[hv2] at k2 r2
   exact same1_of x.1 y.1 _ _ _ _ _ _ _ va1 va2 _ vc1 vc2 _ W' k1 k2 rfl r1 r2 (hx _ (List.getElem_mem hk)) (by have:=(hG.act _ (List.getElem_mem hk)).len;omega)))
 have HK1:=qq (fun W (hW:Below w.heap.size w W)=>(h1.below hW).blk);have HK2:=qq (fun W (hW:Below w.heap.size w W)=>(h2.below hW).blk);rw[e1,e3] at HK1;rw[e2,e4] at HK2;have l1:=h1.blk.lt;have l2:=h2.blk.lt;clear h1 h2 hG hx e1 e2 e3 e4 hnp hna;go_enter Tryz.func32,Tryz.ntmps32;go_wp2_with fail
 refine reg_startZ (Below w.heap.size w) (fun _=>True) (by kernel_rfl) (bel_drew (Below.refl _ _)) True.intro (fun _=>false) ?_;rintro w1 hHeld -;refine takeX (d:=some 6) 0 rfl rfl hHeld (fun w' hS'=>by clear hS';go_simp;(try rfl)) ?_;simp only[puts];refine takeX (d:=some 7) 1 rfl rfl hHeld (fun w' hS'=>by clear hS';go_simp;(try rfl)) ?_;simp only[puts]
 refine takeX (d:=some 8) 2 rfl rfl hHeld (fun w' hS'=>by clear hS';go_simp;(try rfl)) ?_;simp only[puts];refine takeX (d:=some 9) 3 rfl rfl hHeld (fun w' hS'=>by have qA:=(HK1.out _ hS').cell;clear hS';go_simp;(try rfl)) ?_;simp only[puts];refine takeX (d:=some 10) 4 rfl rfl hHeld (fun w' hS'=>by clear hS';go_simp;(try rfl)) ?_;simp only[puts]
 refine takeX (d:=some 11) 5 rfl rfl hHeld (fun w' hS'=>by clear hS';go_simp;(try rfl)) ?_;simp only[puts];refine takeX (d:=some 12) 6 rfl rfl hHeld (fun w' hS'=>by clear hS';go_simp;(try rfl)) ?_;simp only[puts];refine takeX (d:=some 13) 7 rfl rfl hHeld (fun w' hS'=>by have qA:=(HK2.out _ hS').cell;clear hS';go_simp;(try rfl)) ?_;simp only[puts]
 refine takeX (d:=some 14) 8 rfl rfl hHeld (fun w' hS'=>by clear hS';go_simp;(try rfl)) ?_;simp only[puts];refine takeX (d:=some 15) 9 rfl rfl hHeld (fun w' hS'=>by clear hS';go_simp;(try rfl)) ?_;simp only[puts];refine takeX (d:=some 16) 10 rfl rfl hHeld (fun w' hS'=>by clear hS';go_simp;(try rfl)) ?_;simp only[puts]
 refine takeX (d:=some 17) 11 rfl rfl hHeld (fun w' hS'=>by clear hS';go_simp;(try rfl)) ?_;simp only[puts];refine takeX (d:=some 18) 12 rfl rfl hHeld (fun w' hS'=>by clear hS';go_simp;(try rfl)) ?_;simp only[puts];refine takeX (d:=some 19) 13 rfl rfl hHeld (fun w' hS'=>by have qA:=(HK1.out _ hS').cell;clear hS';go_simp;(try rfl)) ?_;simp only[puts]
 refine takeX (d:=some 20) 14 rfl rfl hHeld (fun w' hS'=>by clear hS';go_simp;(try rfl)) ?_;simp only[puts];refine takeX (d:=some 21) 15 rfl rfl hHeld (fun w' hS'=>by clear hS';go_simp;(try rfl)) ?_;simp only[puts];refine takeX (d:=some 22) 16 rfl rfl hHeld (fun w' hS'=>by clear hS';go_simp;(try rfl)) ?_;simp only[puts]
 refine takeX (d:=some 23) 17 rfl rfl hHeld (fun w' hS'=>by have qA:=(HK2.out _ hS').cell;clear hS';go_simp;(try rfl)) ?_;simp only[puts];refine takeX (d:=some 24) 18 rfl rfl hHeld (fun w' hS'=>by clear hS';go_simp;(try rfl)) ?_;simp only[puts];refine takeX (d:=some 25) 19 rfl rfl hHeld (fun w' hS'=>by clear hS';go_simp;(try rfl)) ?_;simp only[puts]
 refine takeX (d:=some 26) 20 rfl rfl hHeld (fun w' hS'=>by clear hS';go_simp;(try rfl)) ?_;simp only[puts];refine takeX (d:=some 27) 21 rfl rfl hHeld (fun w' hS'=>by clear hS';go_simp;(try rfl)) ?_;simp only[puts];refine takeX (d:=some 28) 22 rfl rfl hHeld (fun w' hS'=>by clear hS';go_simp;(try rfl)) ?_;simp only[puts]
 refine takeX (d:=some 29) 23 rfl rfl hHeld (fun w' hS'=>by clear hS';go_simp;(try rfl)) ?_;simp only[puts];refine takeX (d:=some 30) 24 rfl rfl hHeld (fun w' hS'=>by have qA:=(HK1.out _ hS').cell;clear hS';go_simp;(try rfl)) ?_;simp only[puts];refine takeX (d:=some 31) 25 rfl rfl hHeld (fun w' hS'=>by clear hS';go_simp;(try rfl)) ?_;simp only[puts]
 refine takeX (d:=some 32) 26 rfl rfl hHeld (fun w' hS'=>by clear hS';go_simp;(try rfl)) ?_;simp only[puts];refine takeX (d:=some 33) 27 rfl rfl hHeld (fun w' hS'=>by clear hS';go_simp;(try rfl)) ?_;simp only[puts];refine takeX (d:=some 34) 28 rfl rfl hHeld (fun w' hS'=>by have qA:=(HK2.out _ hS').cell;clear hS';go_simp;(try rfl)) ?_;simp only[puts]
 refine call_Z (d:=some 35) 29 116 _ _ [.slice pa1 np pc1,.slice pa2 np pc2] rfl rfl rfl (enters_of Tryz.func116 (by kernel_rfl) rfl) (by rfl) (by rfl) ?_;refine(HEP.out _ hHeld).mono ?_;rintro e w49 ⟨rfl,hb⟩;replace hHeld:=below_then hHeld hb;clear hb;refine⟨_,rfl,.inr hHeld,?_⟩;simp only[puts];refine takeX (d:=some 36) 30 rfl rfl hHeld (fun w' hS'=>by clear hS';go_simp;(try rfl)) ?_
 simp only[puts];refine takeX (d:=some 37) 31 rfl rfl hHeld (fun w' hS'=>by clear hS';go_simp;(try rfl)) ?_;simp only[puts];refine takeX (d:=some 38) 32 rfl rfl hHeld (fun w' hS'=>by clear hS';go_simp;(try rfl)) ?_;simp only[puts];refine takeX (d:=some 39) 33 rfl rfl hHeld (fun w' hS'=>by clear hS';go_simp;(try rfl)) ?_;simp only[puts]
 refine takeX (d:=some 40) 34 rfl rfl hHeld (fun w' hS'=>by clear hS';go_simp;(try rfl)) ?_;simp only[puts];refine takeX (d:=some 41) 35 rfl rfl hHeld (fun w' hS'=>by have qA:=(HK1.out _ hS').cell;clear hS';go_simp;(try rfl)) ?_;simp only[puts];refine takeX (d:=some 42) 36 rfl rfl hHeld (fun w' hS'=>by clear hS';go_simp;(try rfl)) ?_;simp only[puts]
 refine takeX (d:=some 43) 37 rfl rfl hHeld (fun w' hS'=>by clear hS';go_simp;(try rfl)) ?_;simp only[puts];refine takeX (d:=some 44) 38 rfl rfl hHeld (fun w' hS'=>by clear hS';go_simp;(try rfl)) ?_;simp only[puts];refine takeX (d:=some 45) 39 rfl rfl hHeld (fun w' hS'=>by have qA:=(HK2.out _ hS').cell;clear hS';go_simp;(try rfl)) ?_;simp only[puts]
 refine takeX (d:=some 46) 40 rfl rfl hHeld (fun w' hS'=>by clear hS';go_simp;(try rfl)) ?_;simp only[puts];refine call_Z (d:=some 47) 41 117 _ _ [.slice aa1 na ac1,.slice aa2 na ac2,.func (.func 113) #[] #[]] rfl rfl rfl (enters_of Tryz.func117 (by kernel_rfl) rfl) (by rfl) (by rfl) ?_;refine(HEA.out _ hHeld).mono ?_;rintro e w61 ⟨rfl,hb⟩;replace hHeld:=below_then hHeld hb;clear hb
 refine⟨_,rfl,.inr hHeld,?_⟩;simp only[puts];refine takeX (d:=some 48) 42 rfl rfl hHeld (fun w' hS'=>by clear hS';go_simp;(try rfl)) ?_;simp only[puts];refine takeX (d:=some 4) 43 rfl rfl hHeld (fun w' hS'=>by clear hS';go_simp;(try rfl)) ?_;simp only[puts];refine doneX (by kernel_rfl) ?_ _;have HBE:=qq hHeld;clear hHeld;go_wp2_with fail;go_ret;exact⟨rfl,HBE.out⟩
theorem sapply_ok {S:Sto} {f:SFact} (h:(sapply S f).2=0):fok f=true∧sput S f=some (sapply S f).1:=by
 unfold sapply at h⊢;by_cases hf:fok f=false
 · rw[if_pos hf] at h;cases h
 · rw[if_neg hf] at h⊢;refine⟨by simpa using hf,?_⟩
   cases hs:sput S f with
   | none=>rw[hs] at h;cases h
   | some T=>rfl
theorem sapply_no {S:Sto} {f:SFact} (h:(sapply S f).2≠0):(sapply S f).1=S:=by
 unfold sapply at h⊢;by_cases hf:fok f=false
 · rw[if_pos hf]
 · rw[if_neg hf] at h⊢
   cases hs:sput S f with
   | none=>rfl
   | some T=>rw[hs] at h;exact absurd rfl h
theorem sapply_none {S:Sto} {f:SFact} (h:sput S f=none):(sapply S f).2≠0:=by
 unfold sapply;by_cases hf:fok f=false
 · rw[if_pos hf];show(4:Int)≠0;decide
 · rw[if_neg hf,h];show(9:Int)≠0;decide
theorem fok_kind {f:SFact} (h:fok f=true):1≤f.k∧f.k≤8:=by
 unfold fok at h;by_cases h1:f.k=1
 · omega
 rw[if_neg h1,Bool.and_eq_true] at h;have h:=h.2;by_cases h2:f.k=2
 · omega
 rw[if_neg h2] at h;by_cases h3:f.k=3
 · omega
 rw[if_neg h3] at h;by_cases h4:f.k=4
 · omega
 rw[if_neg h4] at h;by_cases h5:f.k=5
 · omega
 rw[if_neg h5] at h;by_cases h6:f.k=6
 · omega
 rw[if_neg h6] at h;by_cases h7:f.k=7
 · omega
 rw[if_neg h7] at h;by_cases h8:f.k=8
 · omega
 rw[if_neg h8] at h
 cases h
theorem fok7_rg {f:SFact} (h:fok f=true) (hk:f.k=7):0≤f.rg:=by
 unfold fok at h;simp[hk] at h;omega
theorem fok4_de {f:SFact} (h:fok f=true) (hk:f.k=4):f.de≠0:=by
 unfold fok at h;simp[hk] at h;omega
theorem sfind_set {S:Sto} {n q:Int} {i:Nat} {a b:SAct} (h:sfind S n q=some i) (ha:S.acts[i]? =some a) (h1:b.an=a.an) (h2:b.aq=a.aq):sfind {S with acts:=S.acts.set i b} n q=some i:=by
 unfold sfind at h⊢;obtain⟨hi,hp,hn⟩:=List.findIdx?_eq_some_iff_getElem.1 h;obtain⟨_,hae⟩:=List.getElem?_eq_some_iff.1 ha;refine List.findIdx?_eq_some_iff_getElem.2 ⟨by simpa using hi,?_,fun j hj=> ?_⟩
 · rw[hae] at hp;simp only[List.getElem_set_self];rw[h1,h2];exact hp
 · rw[List.getElem_set_ne (by omega)];exact hn j hj
theorem sact_twice {a b:SAct} {f:SFact} (h:sact a f=some b) (h3:f.k≠3) (h4:f.k≠2→f.de≠0):sact b f=none∧b.an=a.an∧b.aq=a.aq:=by
 unfold sact at h;by_cases h2:f.k=2
 · rw[if_pos h2] at h;split at h
   · cases h
   · rename_i hc
     injection h with h
     subst h;refine⟨?_,rfl,rfl⟩;unfold sact;rw[if_pos h2,if_pos];left;have:f.rg=a.regs.length:=Decidable.not_not.1 (fun e=>hc (.inl e));rw[this];simp;omega
 · rw[if_neg h2,if_neg h3] at h;split at h
   · cases h
   · injection h with h
     subst h;refine⟨?_,rfl,rfl⟩;unfold sact;rw[if_neg h2,if_neg h3,if_pos];right;exact h4 h2
theorem sput_twice {S T:Sto} {f:SFact} (hG:StoGood S) (hok:fok f=true) (h:sput S f=some T) (h3:f.k≠3) (h8:f.k≠8):sput T f=none:=by
 have hk:=fok_kind hok;unfold sput at h;by_cases h1:f.k=1
 · rw[if_pos h1] at h;split at h
   · cases h
   · injection h with h
     subst h;unfold sput;rw[if_pos h1,if_pos];right;left;show f.aq<f.aq+1
     omega
 rw[if_neg h1] at h;by_cases h6:f.k=6
 · rw[if_pos h6] at h;split at h
   · cases h
   · rename_i hc
     injection h with h
     subst h;unfold sput;rw[if_neg h1,if_pos h6,if_pos];have:f.pt=S.parts.length:=Decidable.not_not.1 hc;rw[this];simp;omega
 rw[if_neg h6] at h;by_cases h7:f.k=7∨f.k=8
 · rw[if_pos h7] at h
   cases hp:S.parts[f.pt.toNat]? with
   | none=>rw[hp] at h;cases h
   | some p=>
    rw[hp] at h;simp only at h;rw[if_neg h8] at h;split at h
    · cases h
    · injection h with h
      subst h;unfold sput;rw[if_neg h1,if_neg h6,if_pos h7];have hl:=(List.getElem?_eq_some_iff.1 hp).1;have hs:(S.parts.set f.pt.toNat {p with rg:=f.rg})[f.pt.toNat]? =some {p with rg:=f.rg}:=by rw[List.getElem?_set_self hl]
      simp only[hs];rw[if_neg h8,if_pos];have:=fok7_rg hok (by omega);show f.rg≠ -1
      omega
 rw[if_neg h7] at h
 cases hf:sfind S f.an f.aq with
 | none=>rw[hf] at h;cases h
 | some i=>
  rw[hf] at h;simp only at h
  cases ha:S.acts[i]? with
  | none=>rw[ha] at h;cases h
  | some a=>
   rw[ha] at h;simp only at h;by_cases h5:f.k=5
   · rw[if_pos h5] at h;split at h
     · cases h
     · injection h with h
       subst h;obtain⟨hi,hp,_⟩:=List.findIdx?_eq_some_iff_getElem.1 hf;have hn:sfind {S with acts:=S.acts.take i ++S.acts.drop (i+1)} f.an f.aq=none:=by
        unfold sfind;rw[List.findIdx?_eq_none_iff];intro c hc;simp only[decide_eq_true_iff] at hp;have hso:=hG.sorted;rw[←List.take_append_drop i S.acts,List.pairwise_append,List.drop_eq_getElem_cons hi,List.pairwise_cons] at hso;rcases List.mem_append.1 hc with hc | hc
        · have:=hso.2.2 c hc S.acts[i] List.mem_cons_self;simp;omega
        · have:=hso.2.1.1 c hc;simp;omega
       unfold sput;rw[if_neg h1,if_neg h6,if_neg h7,hn]
   · rw[if_neg h5] at h
     cases hs:sact a f with
     | none=>rw[hs] at h;cases h
     | some b=>
      rw[hs] at h;simp only[Option.map_some] at h;injection h with h
      subst h;obtain⟨e1,e2,e3⟩:=sact_twice hs h3 (fun h2=>fok4_de hok (by omega));have hl:=(List.getElem?_eq_some_iff.1 ha).1;unfold sput;rw[if_neg h1,if_neg h6,if_neg h7,sfind_set hf ha e2 e3];have hg:(S.acts.set i b)[i]? =some b:=by rw[List.getElem?_set_self hl]
      simp only[hg];rw[if_neg h5,e1];rfl
theorem sapply_twice {S:Sto} {f:SFact} (hG:StoGood S) (h:(sapply S f).2=0) (h3:f.k≠3) (h8:f.k≠8):(sapply (sapply S f).1 f).2≠0:=by
 obtain⟨h1,h2⟩:=sapply_ok h;exact sapply_none (sput_twice hG h1 h2 h3 h8)
theorem sput_ended {S T:Sto} {f:SFact} (h:sput S f=some T) {i:Nat} {p:SPart} (hp:S.parts[i]? =some p):∃p',T.parts[i]? =some p'∧(p.seat.s=14→p'.seat=p.seat):=by
 unfold sput at h;by_cases h1:f.k=1
 · rw[if_pos h1] at h;split at h
   · cases h
   · injection h with h;subst h;exact⟨p,hp,fun _=>rfl⟩
 rw[if_neg h1] at h;by_cases h6:f.k=6
 · rw[if_pos h6] at h;split at h
   · cases h
   · injection h with h
     subst h;exact⟨p,by rw[List.getElem?_append_left (List.getElem?_eq_some_iff.1 hp).1];exact hp,fun _=>rfl⟩
 rw[if_neg h6] at h;by_cases h7:f.k=7∨f.k=8
 · rw[if_pos h7] at h
   cases hq:S.parts[f.pt.toNat]? with
   | none=>rw[hq] at h;cases h
   | some q=>
    rw[hq] at h;simp only at h;have key:∀q':SPart,(q.seat.s=14→q'.seat=q.seat)→∃p',(S.parts.set f.pt.toNat q')[i]? =some p'∧(p.seat.s=14→p'.seat=p.seat):=fun q' hs=>by
     by_cases hi:f.pt.toNat=i
     · subst hi;rw[hq] at hp;injection hp with hp
       subst hp;exact⟨q',by rw[List.getElem?_set_self (List.getElem?_eq_some_iff.1 hq).1],hs⟩
     · exact⟨p,by rw[List.getElem?_set_ne hi];exact hp,fun _=>rfl⟩
    split at h
    · cases ht:sturn q.seat f.st f.hw with
      | none=>rw[ht] at h;cases h
      | some t=>
       rw[ht] at h;simp only[Option.map_some] at h;injection h with h
       subst h;exact key _ (fun he=>by unfold sturn at ht;rw[if_pos (.inl he)] at ht;cases ht)
    · split at h
      · cases h
      · injection h with h
        subst h;exact key _ (fun _=>rfl)
 rw[if_neg h7] at h
 cases hf:sfind S f.an f.aq with
 | none=>rw[hf] at h;cases h
 | some j=>
  rw[hf] at h;simp only at h
  cases ha:S.acts[j]? with
  | none=>rw[ha] at h;cases h
  | some a=>
   rw[ha] at h;simp only at h;split at h
   · split at h
     · cases h
     · injection h with h;subst h;exact⟨p,hp,fun _=>rfl⟩
   · cases hs:sact a f with
     | none=>rw[hs] at h;cases h
     | some b=>
      rw[hs] at h;simp only[Option.map_some] at h;injection h with h
      subst h;exact⟨p,hp,fun _=>rfl⟩
theorem sapply_ended {S:Sto} {f:SFact} (h:(sapply S f).2=0) {i:Nat} {p:SPart} (hp:S.parts[i]? =some p):∃p',(sapply S f).1.parts[i]? =some p'∧(p.seat.s=14→p'.seat=p.seat):=sput_ended (sapply_ok h).2 hp
theorem sput_node {S T:Sto} {f:SFact} (h:sput S f=some T):T.node=S.node:=by
 unfold sput at h;split at h
 · split at h
   · cases h
   · injection h with h;subst h;rfl
 · split at h
   · split at h
     · cases h
     · injection h with h;subst h;rfl
   · split at h
     · split at h
       · cases h
       · split at h
         · obtain⟨t,_,ht⟩:=Option.map_eq_some_iff.1 h;subst ht;rfl
         · split at h
           · cases h
           · injection h with h;subst h;rfl
     · split at h
       · cases h
       · split at h
         · cases h
         · split at h
           · split at h
             · cases h
             · injection h with h;subst h;rfl
           · obtain⟨t,_,ht⟩:=Option.map_eq_some_iff.1 h;subst ht;rfl
theorem sapply_node (S:Sto) (f:SFact):(sapply S f).1.node=S.node:=by
 by_cases h:(sapply S f).2=0
 · exact sput_node (sapply_ok h).2
 · rw[sapply_no h]
open Go.RowKit
structure ActsIn (B:Nat) (v:Value) (al:List SAct) (vs:List Value) (w:World):Prop where
 len:vs.length=al.length
 row:w.ownsRow B 51 8 v al.length (actsL al vs)
 regs:∀(i:Nat) (a:SAct) (x:Value),al[i]? =some a→vs[i]? =some x→w.ownsRow B 55 6 x a.regs.length (regsL a.regs)
 apart:∀x∈vs,∀k,x.ownBlock=some k→v.ownBlock≠some k
theorem ActsIn.below {B:Nat} {v:Value} {al:List SAct} {vs:List Value} {w w':World} (h:ActsIn B v al vs w) (hb:Below w.heap.size w w'):ActsIn B v al vs w':=
 ⟨h.len,row_heap h.row (fun k hk=>hb.block k (h.row.lt k hk).2),fun i a x h1 h2=>row_heap (h.regs i a x h1 h2) (fun k hk=>hb.block k ((h.regs i a x h1 h2).lt k hk).2),h.apart⟩
theorem ActsIn.nil (B:Nat) (w:World):ActsIn B (.slice none 0 0) [] [] w:=⟨rfl,World.ownsRow_nil _ _ _ _,fun i a x h=>by simp at h,fun x h=>by cases h⟩
theorem ActsIn.snoc {B : Nat} {v v2 : Value} {al : List SAct} {vs : List Value} {w w2 : World} {a : SAct} {x : Value} (h : ActsIn B v al vs w) (hx : w.ownsRow B 55 6 x a.regs.length (regsL a.regs)) (hax : ∀ k, x.ownBlock = some k → v.ownBlock ≠ some k)
    (hr:w2.ownsRow B 51 8 v2 (al.length+1) (actsL al vs ++actL a x)) (hg:w.grownBy w2 v.ownBlock) (hat:v2.ownBlock=v.ownBlock∨v2.ownBlock=some w.heap.size):ActsIn B v2 (al ++ [a]) (vs ++ [x]) w2:=by
 have keep:∀(u:Value) (r:List SReg),w.ownsRow B 55 6 u r.length (regsL r)→(∀k,u.ownBlock=some k→v.ownBlock≠some k)→w2.ownsRow B 55 6 u r.length (regsL r):=fun u r h1 h2=>
  row_heap h1 (fun k hk=>hg.block k (h1.lt k hk).2 (fun e=>h2 k hk e.symm))
 have apart2:∀(u:Value) (r:List SReg),w.ownsRow B 55 6 u r.length (regsL r)→(∀k,u.ownBlock=some k→v.ownBlock≠some k)→∀k,u.ownBlock=some k→v2.ownBlock≠some k:=fun u r h1 h2 k hk e=>by
  rcases hat with h3 | h3
  · exact h2 k hk (by rw[←h3];exact e)
  · have:=(h1.lt k hk).2;rw[h3] at e;injection e with e
    omega
 have hl:=h.len;refine⟨by simp[h.len],?_,fun i a' x' h1 h2=> ?_,fun u hu k hk=> ?_⟩
 · rw[List.length_append];unfold actsL at hr⊢;rw[List.zip_append h.len.symm,List.flatMap_append];simpa using hr
 · by_cases hi:i<al.length
   · rw[List.getElem?_append_left hi] at h1;rw[List.getElem?_append_left (by omega)] at h2;exact keep _ _ (h.regs i a' x' h1 h2) (h.apart x' (List.mem_of_getElem? h2))
   · rw[List.getElem?_append_right (by omega)] at h1;rw[List.getElem?_append_right (by omega),hl] at h2;have e0:i - al.length=0:=by
      rcases Nat.eq_zero_or_pos (i - al.length) with e | e
      · exact e
      · rw[List.getElem?_eq_none (by simp;omega)] at h1;cases h1
     rw[e0] at h1 h2;simp at h1 h2;subst h1 h2;exact keep _ _ hx hax
 · rcases List.mem_append.1 hu with hu | hu
   · obtain⟨i,hi,rfl⟩:=List.getElem_of_mem hu;exact apart2 _ _ (h.regs i al[i] vs[i] (List.getElem?_eq_getElem (by omega)) (List.getElem?_eq_getElem hi)) (h.apart _ hu) k hk
   · obtain rfl:=List.mem_singleton.1 hu;exact apart2 _ _ hx hax k hk
end Go.Proofs.YtlkajejbfojkeaaGreatDoor
