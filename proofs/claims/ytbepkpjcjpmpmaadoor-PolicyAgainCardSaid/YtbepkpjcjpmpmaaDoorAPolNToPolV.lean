/- PolN, PolU, PolV -/
import Derived.Test.YtbepkpjcjpmpmaaDoorAPcAToTolA
import Derived.Shelf.Small.Wraps
import Derived.Test.YtbepkpjcjpmpmaaDoorAPolHToPolS
set_option linter.unusedSimpArgs false
set_option linter.unusedVariables false
set_option maxRecDepth 100000
set_option maxHeartbeats 16000000
namespace Go.Proofs.YtbepkpjcjpmpmaaDoor
open Go.RowKit Go.Shelf
shelf_lay Lays.n103 Nm 103 at Tryd as shCutPrefix
theorem cutp_of (s:PStr) (c:UInt8) (w:World):Calls Tryd.prog 48 #[.string ⟨s.toArray⟩,.string ⟨#[c]⟩] w (fun e w'=>e=.returned (.tuple #[.string ⟨((rHas c s).getD s).toArray⟩,.bool (rHas c s).isSome])∧w=w'):=by
 refine(Any.strings_CutPrefix shCutPrefix ⟨s.toArray⟩ ⟨#[c]⟩ w).mono ?_;rintro e w' ⟨rfl,rfl⟩;refine⟨?_,rfl⟩;have e1:Lib.hasPrefix s [c]=(rHas c s).isSome:=by
  cases s with
  | nil=>simp[rHas,Lib.hasPrefix]
  | cons x t=>
   unfold rHas;by_cases h:x=c
   · subst h;simp[Lib.hasPrefix]
   · have h':¬c=x:=fun e=>h e.symm
     simp[Lib.hasPrefix,List.isPrefixOf,h,h']
 have e2:Lib.trimPrefix s [c]=(rHas c s).getD s:=by
  unfold Lib.trimPrefix;rw[e1]
  cases s with
  | nil=>simp[rHas]
  | cons x t=>
   unfold rHas;by_cases h:x=c
   · subst h;simp
   · simp[h]
 have e3:(⟨s.toArray⟩:ByteArray).data.toList=s:=by simp
 have e4:(⟨#[c]⟩:ByteArray).data.toList=[c]:=rfl;rw[e3,e4,e1,e2]
def hasW (r:Option PStr) (rb:Nat) (w:World):World:=match r with | some t=>w.setCell ⟨rb,0,none⟩ (.string ⟨t.toArray⟩) | none=>w
theorem has_of (s : PStr) (c : UInt8) (rb : Nat) (d : Value) (w : World) (h : Blk w rb #[.string ⟨s.toArray⟩, d]) :
    Calls Tryd.prog 33 #[.pointer (some ⟨rb,0,none⟩),.string ⟨#[c]⟩] w (fun e w'=>e=.returned (.bool (rHas c s).isSome)∧w'=hasW (rHas c s) rb w):=by
 have HC:=qq (cutp_of s c);obtain⟨l0,q0,f0⟩:=h;have c0:w.cell? ⟨rb,0,none⟩=some (.string ⟨s.toArray⟩):=q0 0;have z0:w.frozen? ⟨rb,0,none⟩=false:=f0 0;clear q0 f0
 cases hr:rHas c s with
 | none=>
  rw[hr] at HC;clear hr;go_enter Tryd.func33,Tryd.ntmps33;go_wp2_with fail;refine(HC.out _).mono ?_;rintro e w1 ⟨rfl,rfl⟩;go_wp2_with fail
  (try go_ret)
  exact⟨rfl,rfl⟩
 | some t=>
  rw[hr] at HC;clear hr;go_enter Tryd.func33,Tryd.ntmps33;go_wp2_with fail;refine(HC.out _).mono ?_;rintro e w1 ⟨rfl,rfl⟩;go_wp2_with fail
  (try go_ret)
  exact⟨rfl,rfl⟩
theorem signs_of (op:Int) (w:World):Calls Tryd.prog 32 #[.int .i64 op] w (fun e w'=>e=.returned (if op=2 then .tuple #[.string ⟨#[40]⟩,.string ⟨#[38]⟩,.string ⟨#[41]⟩] else .tuple #[.string ⟨#[91]⟩,.string ⟨#[124]⟩,.string ⟨#[93]⟩])∧w=w'):=by
 by_cases h:op=2
 · subst h;rw[if_pos rfl];go_enter Tryd.func32,Tryd.ntmps32;go_wp2_with fail
   first | go_ret3 | go_ret | skip
   first | exact⟨rfl,rfl⟩ | exact⟨_,rfl,rfl,rfl,rfl⟩
 · rw[if_neg h];have h2:(op==2)=false:=by simpa using h
   go_enter Tryd.func32,Tryd.ntmps32;go_wp2_with fail
   first | go_ret3 | go_ret | skip
   first | exact⟨rfl,rfl⟩ | exact⟨_,rfl,rfl,rfl,rfl⟩
theorem rHas_len {c:UInt8} {s t:PStr} (h:rHas c s=some t):t.length+1=s.length:=by
 cases s with
 | nil=>cases h
 | cons x y=>
  simp only[rHas] at h;by_cases hx:x=c
  · rw[if_pos hx] at h;injection h with h
    subst h;rfl
  · rw[if_neg hx] at h
    cases h
def PF.names (N:Nat):PF→Prop
 | .nil=>True
 | .cons _ nm _ kids rest=>nm.length≤N∧kids.names N∧rest.names N
theorem PF.names_snoc {N:Nat}:∀(f:PF) (e:PE),f.names N→e.nm.length≤N→e.kids.names N→(f.snoc e).names N
 | .nil,e,_,h1,h2=>⟨h1,h2,True.intro⟩
 | .cons o n b k r,e,h,h1,h2=>⟨h.1,h.2.1,PF.names_snoc r e h.2.2 h1 h2⟩
theorem PF.sz_snoc:∀(f:PF) (e:PE),(f.snoc e).sz=f.sz+e.kids.sz+1
 | .nil,e=>by show e.kids.sz+0+1=_;simp[PF.sz]
 | .cons o n b k r,e=>by show k.sz+(r.snoc e).sz+1=k.sz+r.sz+1+e.kids.sz+1;rw[PF.sz_snoc r e];omega
def PF.isOne:PF→Prop
 | .cons _ _ _ _ .nil=>True
 | _=>False
def rdOk (N:Nat) (s:PStr):Option (UInt8×UInt8×PF)→PF→PStr→Prop
 | none,f,t=>f.sz+t.length≤s.length+1∧f.names N∧f.isOne∧t.length≤s.length
 | some (_,_,acc),f,t=>f.sz+t.length≤acc.sz+s.length∧(acc.names N→f.names N)∧t.length≤s.length
theorem take_len (p:UInt8→Bool):∀s:PStr,(s.takeWhile p).length≤s.length∧(s.dropWhile p).length≤s.length
 | []=>⟨Nat.le_refl _,Nat.le_refl _⟩
 | x::t=>by
  have:=take_len p t;simp only[List.takeWhile,List.dropWhile];split<;>simp<;>omega
theorem rd_ok (N:Nat):∀(g d:Nat) (s:PStr) (x:Option (UInt8×UInt8×PF)) (f:PF) (t:PStr),s.length≤N→rdGo g d s x=some (f,t)→rdOk N s x f t:=by
 intro g
 induction g with
 | zero=>intro d s x f t _ h;unfold rdGo at h;cases h
 | succ g ih=>
  intro d s x f t hN h;have both:∀(bt en:UInt8) (k:Int) (u:PStr),u.length+1=s.length→((match rHas en u with | some v=>(some (PF.nil,v):Option (PF×PStr)) | none=>rdGo g (d+1) u (some (bt,en,.nil))).map (fun(r:PF×PStr)=>(PF.cons k [] false r.1 .nil,r.2)))=some (f,t)→rdOk N s none f t:=by
   intro bt en k u hu h;obtain⟨r,hr,he⟩:=Option.map_eq_some_iff.1 h;injection he with h1 h2
   subst h1 h2
   cases hv:rHas en u with
   | some v=>
    rw[hv] at hr;injection hr with hr
    subst hr;have:=rHas_len hv;exact⟨by show 0+0+1+v.length≤_;omega,⟨Nat.zero_le _,True.intro,True.intro⟩,True.intro,by show v.length≤_;omega⟩
   | none=>
    rw[hv] at hr;obtain⟨r1,r2⟩:=r;obtain⟨h1,h2,h3⟩:=ih (d+1) u (some (bt,en,.nil)) r1 r2 (by omega) hr;have h1':r1.sz+r2.length≤0+u.length:=h1;exact⟨by show r1.sz+0+1+r2.length≤_;omega,⟨Nat.zero_le _,h2 True.intro,True.intro⟩,True.intro,by show r2.length≤_;omega⟩
  cases x with
  | none=>
   unfold rdGo at h;split at h
   · cases h
   · split at h
     · rename_i u hu
       exact both 38 41 2 u (rHas_len hu) h
     · split at h
       · rename_i u hu
         exact both 124 93 3 u (rHas_len hu) h
       · have hl:=take_len isLet s;have hsum:(s.takeWhile isLet).length+(s.dropWhile isLet).length=s.length:=by
          rw[←List.length_append,List.takeWhile_append_dropWhile]
         split at h
         · rename_i v hv
           injection h with h
           injection h with h1 h2
           subst h1 h2;have:=rHas_len hv;exact⟨by show 0+0+1+v.length≤_;omega,⟨by omega,True.intro,True.intro⟩,True.intro,by omega⟩
         · injection h with h
           injection h with h1 h2
           subst h1 h2;exact⟨by show 0+0+1+(s.dropWhile isLet).length≤_;omega,⟨by omega,True.intro,True.intro⟩,True.intro,by omega⟩
  | some y=>
   obtain⟨bt,en,acc⟩:=y;unfold rdGo at h;obtain⟨r,hr,h⟩:=Option.bind_eq_some_iff.1 h;obtain⟨r1,r2⟩:=r;obtain⟨g1,g2,g3,g4⟩:=ih d s none r1 r2 hN hr;dsimp only at h;split at h
   · cases h
   · rename_i o n b k w
     have hwn:w=.nil:=by
      cases w with
      | nil=>rfl
      | cons=>exact g3.elim
     subst hwn;have hs:(PF.cons o n b k .nil).sz=k.sz+0+1:=rfl;rw[hs] at g1;have hsn:=PF.sz_snoc acc ⟨o,n,b,k⟩;dsimp only at hsn;split at h
     · rename_i u hu
       injection h with h
       injection h with h1 h2
       subst h1 h2;have:=rHas_len hu;exact⟨by rw[hsn];omega,fun ha=>PF.names_snoc acc _ ha g2.1 g2.2.1,by omega⟩
     · obtain⟨u,hu,h⟩:=Option.bind_eq_some_iff.1 h;have:=rHas_len hu;obtain⟨e1,e2,e3⟩:=ih d u _ f t (by omega) h;rw[hsn] at e1;exact⟨by omega,fun ha=>e2 (PF.names_snoc acc _ ha g2.1 g2.2.1),by omega⟩
theorem PF.small_of:∀(f:PF) (N M:Nat),N≤100000→M≤100000→f.names N→f.sz≤M→f.small
 | .nil,_,_,_,_,_,_=>True.intro
 | .cons o n b k r,N,M,hN,hM,hn,hs=>by
  have h1:k.sz+r.sz+1≤M:=hs;have h2:=PF.len_sz k;exact⟨Nat.le_trans hn.1 hN,by omega,PF.small_of k N M hN hM hn.2.1 (by omega),PF.small_of r N M hN hM hn.2.2 (by omega)⟩
abbrev RdB (w:World) (rb:Nat) (s:PStr) (d:Nat):Prop:=Blk w rb #[.string ⟨s.toArray⟩,(d:Int)]
def ExprEnds (q:Option (PF×PStr)) (rb d:Nat) (ea:Int→Addr) (w:World) (e:Ending) (w':World):Prop:=
 (∀o n b k t,q=some (.cons o n b k .nil,t)→∃a c,e=.returned (.agg #[o,.string ⟨n.toArray⟩,.bool b,.slice a k.len c])∧KC w.heap.size w'.heap.size w' k a∧RdB w' rb t d∧w.grownBy w' (some rb))∧
 (q=none→e=.panicked [{v:=errV (ea 4),recovered:=false}]∧(∃s',RdB w' rb s' d)∧w.grownBy w' (some rb))
def KidsEnds (q:Option (PF×PStr)) (rb d:Nat) (ea:Int→Addr) (w:World) (e:Ending) (w':World):Prop:=
 (∀f t,q=some (f,t)→∃a c,e=.returned (.slice a f.len c)∧KC w.heap.size w'.heap.size w' f a∧RdB w' rb t d∧w.grownBy w' (some rb))∧
 (q=none→e=.panicked [{v:=errV (ea 4),recovered:=false}]∧(∃s',RdB w' rb s' d)∧w.grownBy w' (some rb))
def kidsQ (g d:Nat) (bt en:UInt8) (s:PStr):Option (PF×PStr):=match rHas en s with | some u=>some (.nil,u) | none=>rdGo g d s (some (bt,en,.nil))
def ExprAt (g:Nat):Prop:=∀(s:PStr) (d rb:Nat) (ea:Int→Addr) (w0 w:World),2*s.length+1≤g→s.length≤20000→d≤12→RdB w rb s d→Errs ea w0→w0.heap.size≤rb→Below w0.heap.size w0 w→
 Calls Tryd.prog 19 #[.pointer (some ⟨rb,0,none⟩)] w (ExprEnds (rdGo g d s none) rb d ea w)
theorem RdB.gr {w w':World} {rb:Nat} {s:PStr} {d:Nat} (h:RdB w rb s d) {g:Nat} (hg:w.grownBy w' (some g)) (hne:g≠rb):RdB w' rb s d:=Blk.gr h hg hne
theorem rd_set {w:World} {rb:Nat} {s t:PStr} {d:Nat} (h:RdB w rb s d):RdB (w.setCell ⟨rb,0,none⟩ (.string ⟨t.toArray⟩)) rb t d:=by
 have:=h.set' 0 (by simp) (.string ⟨t.toArray⟩);simpa using this
theorem infoEx:(Tryd.prog.info? 32).map (fun i=>(i.zero,i.size,i.bytes))=some (some (.agg #[.int .i64 0,.string ⟨#[]⟩,.bool false,.slice none 0 0]),4,56):=by kernel_rfl
def strAt (w:World) (rb:Nat):Nat:=match w.cell? ⟨rb,0,none⟩ with | some (.string b)=>b.size | _=>0
theorem strAt_rd {w:World} {rb:Nat} {s:PStr} {d:Nat} (h:RdB w rb s d):strAt w rb=s.length:=by
 have c0:w.cell? ⟨rb,0,none⟩=some (.string ⟨s.toArray⟩):=h.cell 0;unfold strAt;rw[c0];simp[ByteArray.size]
def rdNext (g d:Nat) (bt en:UInt8) (acc:PF) (r:PF×PStr):Option (PF×PStr):=
 match r.1 with
 | .nil=>none
 | .cons o n b k _=>
  match rHas en r.2 with
  | some u=>some (acc.snoc ⟨o,n,b,k⟩,u)
  | none=>(rHas bt r.2).bind fun u=>rdGo g d u (some (bt,en,acc.snoc ⟨o,n,b,k⟩))
theorem kids_of (G : Nat) (H : ∀ g, g ≤ G → ExprAt g) (bt en : UInt8) (s : PStr) (d rb : Nat) (ea : Int → Addr) (w0 w : World) (hg : 2 * s.length + 2 ≤ G) (hs : s.length ≤ 20000) (hd : d ≤ 12) (hb : RdB w rb s d) (hE : Errs ea w0) (hr : w0.heap.size ≤ rb) (hB : Below w0.heap.size w0 w) :
    Calls Tryd.prog 34 #[.pointer (some ⟨rb,0,none⟩),.string ⟨#[bt]⟩,.string ⟨#[en]⟩] w (KidsEnds (kidsQ G d bt en s) rb d ea w):=by
 obtain⟨i0,ei,ez,es,eb⟩:=info_parts infoEx;have HH:=qq H;have HBW:=qq hB;have HHAS:=qq (fun(t:PStr) (c:UInt8) (W:World) (h:RdB W rb t d)=>has_of t c rb (.int .i64 (d:Int)) W h);have HEE:=qq hE;have HR:=qq hr;have HGE:Hid (∀W,Below w0.heap.size w0 W→W.cell? ⟨0,0,none⟩=some (errV (ea 4))):=qq (fun W hW=>(hE.below hW).e4)
 have HYES:Hid (∀f t a c w',kidsQ G d bt en s=some (f,t)→KC w.heap.size w'.heap.size w' f a→RdB w' rb t d→w.grownBy w' (some rb)→KidsEnds (kidsQ G d bt en s) rb d ea w (.returned (.slice a f.len c)) w'):=qq (fun f t a c w' h1 h2 h3 h4=>⟨fun f2 t2 h5=>(by rw[h1] at h5;injection h5 with h5;injection h5 with h5 h6;subst h5 h6;exact⟨a,c,rfl,h2,h3,h4⟩),fun h5=>(by rw[h1] at h5;cases h5)⟩)
 have HNO:Hid (∀w',kidsQ G d bt en s=none→(∃s',RdB w' rb s' d)→w.grownBy w' (some rb)→KidsEnds (kidsQ G d bt en s) rb d ea w (.panicked [{v:=errV (ea 4),recovered:=false}]) w'):=qq (fun w' h1 h3 h4=>⟨fun f2 t2 h5=>(by rw[h1] at h5;cases h5),fun _=>⟨rfl,h3,h4⟩⟩);have HQ:Hid (kidsQ G d bt en s=match rHas en s with | some u=>some (.nil,u) | none=>rdGo G d s (some (bt,en,.nil))):=qq rfl
 generalize KidsEnds (kidsQ G d bt en s) rb d ea w=R at HYES HNO⊢;generalize kidsQ G d bt en s=Q at*;have HRB:=qq hb;clear H hB hE hr hb;go_enter Tryd.func34,Tryd.ntmps34;go_wp2_with fail;refine(HHAS.out s en _ HRB.out).mono ?_;rintro e w1 ⟨rfl,hw1⟩
 cases hh:rHas en s with
 | some u=>
  rw[hh] at hw1;have hw1':w1=w.setCell ⟨rb,0,none⟩ (.string ⟨u.toArray⟩):=hw1;have hq:=HQ.out;rw[hh] at hq;have HFIN:=qq (HYES.out .nil u none 0 w1 hq KC.nil (by rw[hw1'];exact rd_set HRB.out) (by rw[hw1'];exact gr_setb (gr_refl _ _) 0 _));clear hw1 hw1' hh hq;go_wp2_with fail
  (try go_ret)
  exact HFIN.out
 | none=>
  rw[hh] at hw1;have hw1':w1=w:=hw1;subst hw1';have HQ2:Hid (Q=rdGo G d s (some (bt,en,.nil))):=qq (by have:=HQ.out;rw[hh] at this;exact this);clear hw1 hh HQ;go_wp2_with fail
  go_loopw [7] (fun ov wr=>∃(g:Nat) (t:PStr) (acc:PF) (xs:List Value),g≤G∧2*t.length+2≤g∧acc.len+t.length≤20000∧Hid (Q=rdGo g d t (some (bt,en,acc)))∧Hid (wr.ownsRow w1.heap.size 32 4 ov acc.len xs)∧Hid (KL (fun k=>w1.heap.size≤k∧k<wr.heap.size∧some k≠ov.ownBlock) wr acc xs)∧Hid (RdB wr rb t d)∧Hid (w1.grownBy wr (some rb))∧Hid (Below w0.heap.size w0 wr)) (fun _ wr=>strAt wr rb)
  case atStart=>exact⟨G,s,.nil,[],Nat.le_refl _,hg,by show 0+s.length≤20000;omega,HQ2,qq (World.ownsRow_nil _ _ _ _),qq rfl,HRB,qq (gr_refl _ _),HBW⟩
  case round=>
   obtain⟨g,t,acc,xs,hgG,hgt,hlen,HS,HO,HK,HT,HG,HB⟩:=hrel;obtain⟨g1,rfl⟩:∃g1,g=g1+1:=⟨g - 1,by omega⟩
   have HX:=qq (HH.out g1 (by omega) t d rb ea w0 wr (by omega) (by omega) hd HT.out HEE.out HR.out HB.out);have hrbw:rb<w1.heap.size:=HRB.out.lt;have HS2:Hid (Q=(rdGo g1 d t none).bind (rdNext g1 d bt en acc)):=qq (by rw[HS.out];rfl);have HRO:=qq (fun f u h=>rd_ok 20000 g1 d t none f u (by omega) h);obtain⟨ao,co,rfl⟩:=row_slice HO.out;have hgz:=HG.out.size;clear HS;go_wp2_with fail
   refine HX.out.mono ?_;rintro e w2 ⟨hyes,hno⟩
   cases hq:rdGo g1 d t none with
   | none=>
    obtain⟨rfl,hrs,hg2⟩:=hno hq;have hfin:=HNO.out w2 (by rw[HS2.out,hq];rfl) hrs (gr_tr HG.out hg2);clear hyes hno hq;exact⟨rfl,hfin⟩
   | some p=>
    obtain⟨f,r2⟩:=p;have hok:=HRO.out f r2 hq;obtain⟨o,n,b,k,rfl⟩:∃o n b k,f=.cons o n b k .nil:=by
     cases f with
     | nil=>exact hok.2.2.1.elim
     | cons o n b k r=>
      cases r with
      | nil=>exact⟨o,n,b,k,rfl⟩
      | cons=>exact hok.2.2.1.elim
    have hr2:r2.length≤t.length:=hok.2.2.2;obtain⟨a2,c2,rfl,hkc,hrb2,hg2⟩:=hyes o n b k r2 hq;have HQ3:Hid (Q=match rHas en r2 with | some u=>some (acc.snoc ⟨o,n,b,k⟩,u) | none=>(rHas bt r2).bind fun u=>rdGo g1 d u (some (bt,en,acc.snoc ⟨o,n,b,k⟩))):=qq (by rw[HS2.out,hq];rfl);have hw2:=hg2.size
    have hne2:∀q,(Value.slice ao acc.len co).ownBlock=some q→some q≠some rb:=fun q hq he=>by injection he with he;have:=(HO.out.lt q hq).1;omega
    have HROW0:=qq (row_heap HO.out (fun q hq=>hg2.block q (HO.out.lt q hq).2 (hne2 q hq)));have HK2:=qq (HK.out.keep (S':=fun q=>w1.heap.size≤q∧q<w2.heap.size∧some q≠(Value.slice ao acc.len co).ownBlock) (fun q hq=>⟨hq.1,by omega,hq.2.2⟩) (fun q hq=>hg2.block q hq.2.1 (fun he=>by injection he with he;omega)))
    have HKC2:Hid (KCS (fun q=>w1.heap.size≤q∧q<w2.heap.size∧some q≠(Value.slice ao acc.len co).ownBlock) w2 k a2):=qq ((KCS.of hkc).keep (fun q hq=>⟨by omega,hq.2,fun he=>by have:=(HO.out.lt q he.symm).2;omega⟩) (fun _ _=>rfl));have HG2:=qq (gr_tr HG.out hg2);have HB2:=qq (gr_below HB.out hg2 HR.out);have HT2:=qq hrb2;obtain⟨nk,hnk⟩:∃q,q=k.len:=⟨_,rfl⟩
    have HNK:=qq hnk;rw[←hnk];have hba:Below w2.heap.size w2 (w2.alloc (.cells #[o,.string ⟨n.toArray⟩,.bool b,.slice a2 nk c2] 32)):=(Below.refl _ _).alloc (Nat.le_refl _) _;have HROW:=qq (row_be HROW0.out hba);have HBA:=qq hba;obtain⟨m,hm⟩:∃q,q=acc.len:=⟨_,rfl⟩
    have HM:=qq hm;rw[←hm] at HROW hlen HK2 HKC2⊢;clear hyes hno hq hkc hrb2 hg2 hne2 hnk hba hm hok HX HO HK HROW0 HS2 HRO
    go_wp2_with (at_builtin;refine wpList_append_rows rfl _ _ 30 rfl w1.heap.size 32 i0 (.agg #[.int .i64 0,.string ⟨#[]⟩,.bool false,.slice none 0 0]) 4 56 Tryd.underlying30 ei ez es eb rfl (by decide) _ _ _ rfl HROW.out w2.heap.size _ _ _ rfl (lit_row4 _ _ _ _ _ _) ?o1 ?c1 ?c2 ?c3 ?_)
    case o1=>intro u hu;simp at hu;rcases hu with rfl | rfl | rfl | rfl<;>rfl
    case c1=>unfold maxLen;omega
    case c2=>omega
    case c3=>simp;omega
    intro v4 w4 hown hgrow hat;obtain⟨OB,hOB⟩:∃q,q=(Value.slice ao m co).ownBlock:=⟨_,rfl⟩
    rw[←hOB] at hgrow hat HK2 HKC2;have hob:∀q,OB=some q→w1.heap.size≤q∧q<w2.heap.size+1:=fun q hq=>by
     have:=HROW.out.lt q (by rw[←hOB];exact hq);simpa using this
    have hw4:w2.heap.size+1≤w4.heap.size:=by have:=hgrow.size;simpa using this
    have hch:∀q,q<w2.heap.size→some q≠OB→w4.heap[q]? =w2.heap[q]? :=fun q hq hne=>(hgrow.block q (by simp;omega) hne).trans (HBA.out.block q hq)
    have HG4:Hid (w1.grownBy w4 (some rb)):=qq ⟨hgrow.os.trans (HBA.out.os.trans HG2.out.os),hgrow.tape.trans (HBA.out.tape.trans HG2.out.tape),hgrow.output.trans (HBA.out.output.trans HG2.out.output),by omega,fun q hq hne=>(hch q (by omega) (fun he=>by have:=(hob q he.symm).1;omega)).trans (HG2.out.block q hq hne)⟩;have HB4:=qq (gr_below HBW.out HG4.out HR.out)
    have HT4:Hid (RdB w4 rb r2 d):=qq (Blk.same HT2.out (by omega) (hch rb (by omega) (fun he=>by have:=(hob rb he.symm).1;omega)));have HK4:Hid (KL (fun q=>w1.heap.size≤q∧q<w4.heap.size∧some q≠v4.ownBlock) w4 (acc.snoc ⟨o,n,b,k⟩) (xs ++ [.int .i64 o,encStr n,.bool b,.slice a2 nk c2])):=qq (by
      have hS:∀q,(w1.heap.size≤q∧q<w2.heap.size∧some q≠OB)→(w1.heap.size≤q∧q<w4.heap.size∧some q≠v4.ownBlock):=fun q hq=>⟨hq.1,by omega,fun he=>by
        rcases hat with h5 | h5
        · rw[h5] at he;exact hq.2.2 he
        · rw[h5] at he;injection he with he
          have e1:(w2.alloc (.cells #[o,.string ⟨n.toArray⟩,.bool b,.slice a2 nk c2] 32)).heap.size=w2.heap.size+1:=by simp
          have:=hq.2.1;omega⟩
      have:=KL.snoc (e:=⟨o,n,b,k⟩) (c:=c2) (HKC2.out.keep hS (fun q hq=>hch q hq.2.1 hq.2.2)) acc xs (HK2.out.keep hS (fun q hq=>hch q hq.2.1 hq.2.2));rw[HNK.out];exact this)
    have HO4:Hid (w4.ownsRow w1.heap.size 32 4 v4 (acc.snoc ⟨o,n,b,k⟩).len (xs ++ [.int .i64 o,encStr n,.bool b,.slice a2 nk c2])):=qq (by rw[PF.len_snoc,←HM.out];exact hown);obtain⟨m4,hm4⟩:∃q,q=m+1:=⟨_,rfl⟩
    have HM4:Hid (m4=(acc.snoc ⟨o,n,b,k⟩).len):=qq (by rw[PF.len_snoc,←HM.out,hm4]);rw[←hm4] at hown;have hlen4:m4+r2.length≤20001:=by omega
    obtain⟨a4,c4,rfl⟩:=row_slice hown;obtain⟨acc2,ha2⟩:∃q,q=acc.snoc ⟨o,n,b,k⟩:=⟨_,rfl⟩
    obtain⟨xs2,hx2⟩:∃q,q=xs ++ [.int .i64 o,encStr n,.bool b,.slice a2 nk c2]:=⟨_,rfl⟩
    rw[←ha2] at HK4 HO4 HM4 HQ3;rw[←hx2] at HK4 HO4;clear hown hgrow hat hob hch hOB hm4 ha2 hx2 HK2 HKC2 HROW HBA;go_wp2_with fail;refine(HHAS.out r2 en _ HT4.out).mono ?_;rintro e w5 ⟨rfl,hw5⟩
    cases hh:rHas en r2 with
    | some u=>
     rw[hh] at hw5;have hw5':w5=w4.setCell ⟨rb,0,none⟩ (.string ⟨u.toArray⟩):=hw5;have hq:=HQ3.out;rw[hh] at hq;have hrow5:w5.ownsRow w1.heap.size 32 4 (.slice a4 m4 c4) acc2.len xs2:=by
      rw[hw5'];exact row_st (p:=⟨rb,0,none⟩) HO4.out (by dsimp only;omega) (.string ⟨u.toArray⟩)
     have hkl5:KL (fun q=>w1.heap.size≤q∧q<w4.heap.size∧some q≠(Value.slice a4 m4 c4).ownBlock) w5 acc2 xs2:=by
      rw[hw5'];exact HK4.out.keep (fun q hq=>hq) (fun q hq=>Below.heap_setCell _ _ _ _ (by dsimp only;omega))
     have hz5:w5.heap.size=w4.heap.size:=by rw[hw5'];simp
     have hkc5:KC w1.heap.size w5.heap.size w5 acc2 a4:=KL.kc (fun q hq=>⟨hq.1,by rw[hz5];exact hq.2.1⟩) hkl5 hrow5 (Nat.le_refl _) (Nat.le_refl _);have HFIN:=qq (HYES.out acc2 u a4 c4 w5 hq hkc5 (by rw[hw5'];exact rd_set HT4.out) (by rw[hw5'];exact gr_setb HG4.out 0 _));clear hrow5 hkl5 hz5 hkc5;rw[←HM4.out] at HFIN;clear hw5 hw5' hh hq;go_wp2_with fail
     (try go_ret)
     exact HFIN.out
    | none=>
     rw[hh] at hw5;have hw5':w5=w4:=hw5;subst hw5';have HQ4:Hid (Q=(rHas bt r2).bind fun u=>rdGo g1 d u (some (bt,en,acc2))):=qq (by have:=HQ3.out;rw[hh] at this;exact this);clear hw5 hh HQ3;have HT5:Hid (RdB w5.drew rb r2 d):=qq HT4.out.drew;have HHB:=qq (HHAS.out r2 bt _ HT5.out)
     cases hbt:rHas bt r2 with
     | none=>
      rw[hbt] at HHB;have hqn:Q=none:=by rw[HQ4.out,hbt];rfl
      have HFIN:=qq (HNO.out w5.drew hqn ⟨r2,HT5.out⟩ (gr_drew HG4.out));clear hbt hqn;go_wp2_with fail;refine reg_startZ (fun w'=>Below w0.heap.size w0 w') (fun w'=>w'=w5.drew) (by kernel_rfl) (bel_drew HB4.out) rfl (fun _=>false) ?_;rintro w6 hHeld rfl;refine takeX (d:=some 20) 0 rfl rfl hHeld (fun w' hS'=>by clear hS';go_simp;(try rfl)) ?_;simp only[puts]
      refine takeX (d:=some 21) 1 rfl rfl hHeld (fun w' hS'=>by clear hS';go_simp;(try rfl)) ?_;simp only[puts];refine takeX (d:=some 23) 3 rfl rfl hHeld (fun w' hS'=>by have qG:=HGE.out _ hS';clear hS';go_simp;(try rfl)) ?_;simp only[puts];refine call_Z (d:=some 22) 2 33 _ _ [.pointer (some ⟨rb,0,none⟩),.string ⟨#[bt]⟩] rfl rfl rfl (enters_of Tryd.func33 (by kernel_rfl) rfl) (by rfl) (by rfl) ?_
      refine HHB.out.mono ?_;rintro e w7 ⟨rfl,hw7⟩;have hw7':w7=w5.drew:=hw7;subst hw7';refine⟨_,rfl,.inr hHeld,?_⟩;simp only[puts];refine one_X 4 (by kernel_rfl) ?_;refine wpOp_die [{v:=errV (ea 4),recovered:=false}] 4 20 _ _ [.bool false,errV (ea 4)] rfl rfl (enters_of Tryd.func20 (by kernel_rfl) rfl) (by rfl) (by rfl) ?_;refine(fail_no _ _).mono ?_;rintro e w8 ⟨rfl,rfl⟩;exact⟨rfl,rfl,HFIN.out⟩
     | some u=>
      rw[hbt] at HHB;have hu:=rHas_len hbt;have HQ5:Hid (Q=rdGo g1 d u (some (bt,en,acc2))):=qq (by rw[HQ4.out,hbt];rfl);clear hbt HQ4;go_wp2_with fail;refine reg_startZ (fun w'=>Below w0.heap.size w0 w') (fun w'=>w'=w5.drew) (by kernel_rfl) (bel_drew HB4.out) rfl (fun _=>false) ?_;rintro w6 hHeld rfl;refine takeX (d:=some 20) 0 rfl rfl hHeld (fun w' hS'=>by clear hS';go_simp;(try rfl)) ?_
      simp only[puts];refine takeX (d:=some 21) 1 rfl rfl hHeld (fun w' hS'=>by clear hS';go_simp;(try rfl)) ?_;simp only[puts];refine takeX (d:=some 23) 3 rfl rfl hHeld (fun w' hS'=>by have qG:=HGE.out _ hS';clear hS';go_simp;(try rfl)) ?_;simp only[puts]
      refine call_Z (d:=some 22) 2 33 _ _ [.pointer (some ⟨rb,0,none⟩),.string ⟨#[bt]⟩] rfl rfl rfl (enters_of Tryd.func33 (by kernel_rfl) rfl) (by rfl) (by rfl) ?_;refine HHB.out.mono ?_;rintro e w7 ⟨rfl,hw7⟩;have hw7':w7=w5.drew.setCell ⟨rb,0,none⟩ (.string ⟨u.toArray⟩):=hw7;replace hHeld:Below w0.heap.size w0 w7:=by rw[hw7'];exact bel_set hHeld HR.out _
      refine⟨_,rfl,.inr hHeld,?_⟩;simp only[puts];refine call_Z (d:=some 24) 4 20 _ _ [.bool true,errV (ea 4)] rfl rfl rfl (enters_of Tryd.func20 (by kernel_rfl) rfl) (by rfl) (by rfl) ?_;refine(fail_yes _ _).mono ?_;rintro e w8 ⟨rfl,rfl⟩;refine⟨_,rfl,.inr hHeld,?_⟩;simp only[puts];refine doneX (by kernel_rfl) ?_ _;have HT7:Hid (RdB w7 rb u d):=qq (by rw[hw7'];exact rd_set HT5.out)
      have HG7:Hid (w1.grownBy w7 (some rb)):=qq (by rw[hw7'];exact gr_setb (gr_drew HG4.out) 0 _);have HO7:Hid (w7.ownsRow w1.heap.size 32 4 (.slice a4 m4 c4) acc2.len xs2):=qq (by rw[hw7'];exact row_st (p:=⟨rb,0,none⟩) (row_dr HO4.out) (by dsimp only;omega) (.string ⟨u.toArray⟩));have HK7:Hid (KL (fun q=>w1.heap.size≤q∧q<w7.heap.size∧some q≠(Value.slice a4 m4 c4).ownBlock) w7 acc2 xs2):=qq (by
        rw[hw7'];refine KL.keep (w:=w5) (S:=fun q=>w1.heap.size≤q∧q<w5.heap.size∧some q≠(Value.slice a4 m4 c4).ownBlock) (fun q hq=> ?_) (fun q hq=> ?_) acc2 xs2 HK4.out
        · exact⟨hq.1,by simpa using hq.2.1,hq.2.2⟩
        · exact Below.heap_setCell w5.drew _ _ q (by dsimp only;omega))
      have HB7:=qq hHeld;clear hw7 hw7' hHeld;go_wp2_with fail;go_roundw
      case rel=>exact⟨g1,u,acc2,xs2,by omega,by omega,by rw[←HM4.out];omega,HQ5,HO7,HK7,HT7,HG7,HB7⟩
      case measure=>rw[strAt_rd HT7.out,strAt_rd HT.out];omega
end Go.Proofs.YtbepkpjcjpmpmaaDoor
