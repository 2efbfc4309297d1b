/- PolV, PcC -/
import Derived.Test.YtbepkpjcjpmpmaaGreatDoorAPolXToPolU
set_option linter.unusedSimpArgs false
set_option linter.unusedVariables false
set_option maxRecDepth 100000
set_option maxHeartbeats 16000000
namespace Go.Proofs.YtbepkpjcjpmpmaaGreatDoor
open Go.RowKit Go.Shelf
abbrev RdB (w:World) (rb:Nat) (s:PStr) (d:Nat):Prop:=Blk w rb #[.string ⟨s.toArray⟩,(d:Int)]
def ExprEnds (q:Option (PF×PStr)) (rb d:Nat) (ea:Int→Addr) (w:World) (e:Ending) (w':World):Prop:=
 (∀o n b k t,q=some (.cons o n b k .nil,t)→∃a c,e=.returned (.agg #[o,.string ⟨n.toArray⟩,.bool b,.slice a k.len c])∧KC w.heap.size w'.heap.size w' k a∧RdB w' rb t d∧w.grownBy w' (some rb))∧
 (q=none→e=.panicked [{v:=errV (ea 4),recovered:=false}]∧(∃s',RdB w' rb s' d)∧w.grownBy w' (some rb))
def KidsEnds (q:Option (PF×PStr)) (rb d:Nat) (ea:Int→Addr) (w:World) (e:Ending) (w':World):Prop:=
 (∀f t,q=some (f,t)→∃a c,e=.returned (.slice a f.len c)∧KC w.heap.size w'.heap.size w' f a∧RdB w' rb t d∧w.grownBy w' (some rb))∧
 (q=none→e=.panicked [{v:=errV (ea 4),recovered:=false}]∧(∃s',RdB w' rb s' d)∧w.grownBy w' (some rb))
def kidsQ (g d:Nat) (bt en:UInt8) (s:PStr):Option (PF×PStr):=match rHas en s with | some u=>some (.nil,u) | none=>rdGo g d s (some (bt,en,.nil))
def ExprAt (g:Nat):Prop:=∀(s:PStr) (d rb:Nat) (ea:Int→Addr) (w0 w:World),2*s.length+1≤g→s.length≤20000→d≤12→RdB w rb s d→Errs ea w0→w0.heap.size≤rb→Below w0.heap.size w0 w→
 Calls Tryz.prog 40 #[.pointer (some ⟨rb,0,none⟩)] w (ExprEnds (rdGo g d s none) rb d ea w)
theorem RdB.gr {w w':World} {rb:Nat} {s:PStr} {d:Nat} (h:RdB w rb s d) {g:Nat} (hg:w.grownBy w' (some g)) (hne:g≠rb):RdB w' rb s d:=Blk.gr h hg hne
theorem rd_set {w:World} {rb:Nat} {s t:PStr} {d:Nat} (h:RdB w rb s d):RdB (w.setCell ⟨rb,0,none⟩ (.string ⟨t.toArray⟩)) rb t d:=by
 have:=h.set' 0 (by simp) (.string ⟨t.toArray⟩);simpa using this
theorem infoEx:(Tryz.prog.info? 27).map (fun i=>(i.zero,i.size,i.bytes))=some (some (.agg #[.int .i64 0,.string ⟨#[]⟩,.bool false,.slice none 0 0]),4,56):=by kernel_rfl
def strAt (w:World) (rb:Nat):Nat:=match w.cell? ⟨rb,0,none⟩ with | some (.string b)=>b.size | _=>0
theorem strAt_rd {w:World} {rb:Nat} {s:PStr} {d:Nat} (h:RdB w rb s d):strAt w rb=s.length:=by
 have c0:w.cell? ⟨rb,0,none⟩=some (.string ⟨s.toArray⟩):=h.cell 0;unfold strAt;rw[c0];simp[ByteArray.size]
def rdNext (g d:Nat) (bt en:UInt8) (acc:PF) (r:PF×PStr):Option (PF×PStr):=
 match r.1 with
 | .nil=>none
 | .cons o n b k _=>
  match rHas en r.2 with
  | some u=>some (acc.snoc ⟨o,n,b,k⟩,u)
  | none=>(rHas bt r.2).bind fun u=>rdGo g d u (some (bt,en,acc.snoc ⟨o,n,b,k⟩))
theorem kids_of (G : Nat) (H : ∀ g, g ≤ G → ExprAt g) (bt en : UInt8) (s : PStr) (d rb : Nat) (ea : Int → Addr) (w0 w : World) (hg : 2 * s.length + 2 ≤ G) (hs : s.length ≤ 20000) (hd : d ≤ 12) (hb : RdB w rb s d) (hE : Errs ea w0) (hr : w0.heap.size ≤ rb) (hB : Below w0.heap.size w0 w) :
    Calls Tryz.prog 64 #[.pointer (some ⟨rb,0,none⟩),.string ⟨#[bt]⟩,.string ⟨#[en]⟩] w (KidsEnds (kidsQ G d bt en s) rb d ea w):=by
 obtain⟨i0,ei,ez,es,eb⟩:=info_parts infoEx;have HH:=qq H;have HBW:=qq hB;have HHAS:=qq (fun(t:PStr) (c:UInt8) (W:World) (h:RdB W rb t d)=>has_of t c rb (.int .i64 (d:Int)) W h);have HEE:=qq hE;have HR:=qq hr;have HGE:Hid (∀W,Below w0.heap.size w0 W→W.cell? ⟨0,0,none⟩=some (errV (ea 4))):=qq (fun W hW=>(hE.below hW).e4)
 have HYES:Hid (∀f t a c w',kidsQ G d bt en s=some (f,t)→KC w.heap.size w'.heap.size w' f a→RdB w' rb t d→w.grownBy w' (some rb)→KidsEnds (kidsQ G d bt en s) rb d ea w (.returned (.slice a f.len c)) w'):=qq (fun f t a c w' h1 h2 h3 h4=>⟨fun f2 t2 h5=>(by rw[h1] at h5;injection h5 with h5;injection h5 with h5 h6;subst h5 h6;exact⟨a,c,rfl,h2,h3,h4⟩),fun h5=>(by rw[h1] at h5;cases h5)⟩)
 have HNO:Hid (∀w',kidsQ G d bt en s=none→(∃s',RdB w' rb s' d)→w.grownBy w' (some rb)→KidsEnds (kidsQ G d bt en s) rb d ea w (.panicked [{v:=errV (ea 4),recovered:=false}]) w'):=qq (fun w' h1 h3 h4=>⟨fun f2 t2 h5=>(by rw[h1] at h5;cases h5),fun _=>⟨rfl,h3,h4⟩⟩);have HQ:Hid (kidsQ G d bt en s=match rHas en s with | some u=>some (.nil,u) | none=>rdGo G d s (some (bt,en,.nil))):=qq rfl
 generalize KidsEnds (kidsQ G d bt en s) rb d ea w=R at HYES HNO⊢;generalize kidsQ G d bt en s=Q at*;have HRB:=qq hb;clear H hB hE hr hb;go_enter Tryz.func64,Tryz.ntmps64;go_wp2_with fail;refine(HHAS.out s en _ HRB.out).mono ?_;rintro e w1 ⟨rfl,hw1⟩
 cases hh:rHas en s with
 | some u=>
  rw[hh] at hw1;have hw1':w1=w.setCell ⟨rb,0,none⟩ (.string ⟨u.toArray⟩):=hw1;have hq:=HQ.out;rw[hh] at hq;have HFIN:=qq (HYES.out .nil u none 0 w1 hq KC.nil (by rw[hw1'];exact rd_set HRB.out) (by rw[hw1'];exact gr_setb (gr_refl _ _) 0 _));clear hw1 hw1' hh hq;go_wp2_with fail
  (try go_ret)
  exact HFIN.out
 | none=>
  rw[hh] at hw1;have hw1':w1=w:=hw1;subst hw1';have HQ2:Hid (Q=rdGo G d s (some (bt,en,.nil))):=qq (by have:=HQ.out;rw[hh] at this;exact this);clear hw1 hh HQ;go_wp2_with fail
  go_loopw [7] (fun ov wr=>∃(g:Nat) (t:PStr) (acc:PF) (xs:List Value),g≤G∧2*t.length+2≤g∧acc.len+t.length≤20000∧Hid (Q=rdGo g d t (some (bt,en,acc)))∧Hid (wr.ownsRow w1.heap.size 27 4 ov acc.len xs)∧Hid (KL (fun k=>w1.heap.size≤k∧k<wr.heap.size∧some k≠ov.ownBlock) wr acc xs)∧Hid (RdB wr rb t d)∧Hid (w1.grownBy wr (some rb))∧Hid (Below w0.heap.size w0 wr)) (fun _ wr=>strAt wr rb)
  case atStart=>exact⟨G,s,.nil,[],Nat.le_refl _,hg,by show 0+s.length≤20000;omega,HQ2,qq (World.ownsRow_nil _ _ _ _),qq rfl,HRB,qq (gr_refl _ _),HBW⟩
  case round=>
   obtain⟨g,t,acc,xs,hgG,hgt,hlen,HS,HO,HK,HT,HG,HB⟩:=hrel;obtain⟨g1,rfl⟩:∃g1,g=g1+1:=⟨g - 1,by omega⟩
   have HX:=qq (HH.out g1 (by omega) t d rb ea w0 wr (by omega) (by omega) hd HT.out HEE.out HR.out HB.out);have hrbw:rb<w1.heap.size:=HRB.out.lt;have HS2:Hid (Q=(rdGo g1 d t none).bind (rdNext g1 d bt en acc)):=qq (by rw[HS.out];rfl);have HRO:=qq (fun f u h=>rd_ok 20000 g1 d t none f u (by omega) h);obtain⟨ao,co,rfl⟩:=row_slice HO.out;have hgz:=HG.out.size;clear HS;go_wp2_with fail
   refine HX.out.mono ?_;rintro e w2 ⟨hyes,hno⟩
   cases hq:rdGo g1 d t none with
   | none=>
    obtain⟨rfl,hrs,hg2⟩:=hno hq;have hfin:=HNO.out w2 (by rw[HS2.out,hq];rfl) hrs (gr_tr HG.out hg2);clear hyes hno hq;exact⟨rfl,hfin⟩
   | some p=>
    obtain⟨f,r2⟩:=p;have hok:=HRO.out f r2 hq;obtain⟨o,n,b,k,rfl⟩:∃o n b k,f=.cons o n b k .nil:=by
     cases f with
     | nil=>exact hok.2.2.1.elim
     | cons o n b k r=>
      cases r with
      | nil=>exact⟨o,n,b,k,rfl⟩
      | cons=>exact hok.2.2.1.elim
    have hr2:r2.length≤t.length:=hok.2.2.2;obtain⟨a2,c2,rfl,hkc,hrb2,hg2⟩:=hyes o n b k r2 hq;have HQ3:Hid (Q=match rHas en r2 with | some u=>some (acc.snoc ⟨o,n,b,k⟩,u) | none=>(rHas bt r2).bind fun u=>rdGo g1 d u (some (bt,en,acc.snoc ⟨o,n,b,k⟩))):=qq (by rw[HS2.out,hq];rfl);have hw2:=hg2.size
    have hne2:∀q,(Value.slice ao acc.len co).ownBlock=some q→some q≠some rb:=fun q hq he=>by injection he with he;have:=(HO.out.lt q hq).1;omega
    have HROW0:=qq (row_heap HO.out (fun q hq=>hg2.block q (HO.out.lt q hq).2 (hne2 q hq)));have HK2:=qq (HK.out.keep (S':=fun q=>w1.heap.size≤q∧q<w2.heap.size∧some q≠(Value.slice ao acc.len co).ownBlock) (fun q hq=>⟨hq.1,by omega,hq.2.2⟩) (fun q hq=>hg2.block q hq.2.1 (fun he=>by injection he with he;omega)))
    have HKC2:Hid (KCS (fun q=>w1.heap.size≤q∧q<w2.heap.size∧some q≠(Value.slice ao acc.len co).ownBlock) w2 k a2):=qq ((KCS.of hkc).keep (fun q hq=>⟨by omega,hq.2,fun he=>by have:=(HO.out.lt q he.symm).2;omega⟩) (fun _ _=>rfl));have HG2:=qq (gr_tr HG.out hg2);have HB2:=qq (gr_below HB.out hg2 HR.out);have HT2:=qq hrb2;obtain⟨nk,hnk⟩:∃q,q=k.len:=⟨_,rfl⟩
    have HNK:=qq hnk;rw[←hnk];have hba:Below w2.heap.size w2 (w2.alloc (.cells #[o,.string ⟨n.toArray⟩,.bool b,.slice a2 nk c2] 27)):=(Below.refl _ _).alloc (Nat.le_refl _) _;have HROW:=qq (row_be HROW0.out hba);have HBA:=qq hba;obtain⟨m,hm⟩:∃q,q=acc.len:=⟨_,rfl⟩
    have HM:=qq hm;rw[←hm] at HROW hlen HK2 HKC2⊢;clear hyes hno hq hkc hrb2 hg2 hne2 hnk hba hm hok HX HO HK HROW0 HS2 HRO
    go_wp2_with (at_builtin;refine wpList_append_rows rfl _ _ 25 rfl w1.heap.size 27 i0 (.agg #[.int .i64 0,.string ⟨#[]⟩,.bool false,.slice none 0 0]) 4 56 Tryz.underlying25 ei ez es eb rfl (by decide) _ _ _ rfl HROW.out w2.heap.size _ _ _ rfl (lit_row4 _ _ _ _ _ _) ?o1 ?c1 ?c2 ?c3 ?_)
    case o1=>intro u hu;simp at hu;rcases hu with rfl | rfl | rfl | rfl<;>rfl
    case c1=>unfold maxLen;omega
    case c2=>omega
    case c3=>simp;omega
    intro v4 w4 hown hgrow hat;obtain⟨OB,hOB⟩:∃q,q=(Value.slice ao m co).ownBlock:=⟨_,rfl⟩
    rw[←hOB] at hgrow hat HK2 HKC2;have hob:∀q,OB=some q→w1.heap.size≤q∧q<w2.heap.size+1:=fun q hq=>by
     have:=HROW.out.lt q (by rw[←hOB];exact hq);simpa using this
    have hw4:w2.heap.size+1≤w4.heap.size:=by have:=hgrow.size;simpa using this
    have hch:∀q,q<w2.heap.size→some q≠OB→w4.heap[q]? =w2.heap[q]? :=fun q hq hne=>(hgrow.block q (by simp;omega) hne).trans (HBA.out.block q hq)
    have HG4:Hid (w1.grownBy w4 (some rb)):=qq ⟨hgrow.os.trans (HBA.out.os.trans HG2.out.os),hgrow.tape.trans (HBA.out.tape.trans HG2.out.tape),hgrow.output.trans (HBA.out.output.trans HG2.out.output),by omega,fun q hq hne=>(hch q (by omega) (fun he=>by have:=(hob q he.symm).1;omega)).trans (HG2.out.block q hq hne)⟩;have HB4:=qq (gr_below HBW.out HG4.out HR.out)
    have HT4:Hid (RdB w4 rb r2 d):=qq (Blk.same HT2.out (by omega) (hch rb (by omega) (fun he=>by have:=(hob rb he.symm).1;omega)));have HK4:Hid (KL (fun q=>w1.heap.size≤q∧q<w4.heap.size∧some q≠v4.ownBlock) w4 (acc.snoc ⟨o,n,b,k⟩) (xs ++ [.int .i64 o,encStr n,.bool b,.slice a2 nk c2])):=qq (by
      have hS:∀q,(w1.heap.size≤q∧q<w2.heap.size∧some q≠OB)→(w1.heap.size≤q∧q<w4.heap.size∧some q≠v4.ownBlock):=fun q hq=>⟨hq.1,by omega,fun he=>by
        rcases hat with h5 | h5
        · rw[h5] at he;exact hq.2.2 he
        · rw[h5] at he;injection he with he
          have e1:(w2.alloc (.cells #[o,.string ⟨n.toArray⟩,.bool b,.slice a2 nk c2] 27)).heap.size=w2.heap.size+1:=by simp
          have:=hq.2.1;omega⟩
      have:=KL.snoc (e:=⟨o,n,b,k⟩) (c:=c2) (HKC2.out.keep hS (fun q hq=>hch q hq.2.1 hq.2.2)) acc xs (HK2.out.keep hS (fun q hq=>hch q hq.2.1 hq.2.2));rw[HNK.out];exact this)
    have HO4:Hid (w4.ownsRow w1.heap.size 27 4 v4 (acc.snoc ⟨o,n,b,k⟩).len (xs ++ [.int .i64 o,encStr n,.bool b,.slice a2 nk c2])):=qq (by rw[PF.len_snoc,←HM.out];exact hown);obtain⟨m4,hm4⟩:∃q,q=m+1:=⟨_,rfl⟩
    have HM4:Hid (m4=(acc.snoc ⟨o,n,b,k⟩).len):=qq (by rw[PF.len_snoc,←HM.out,hm4]);rw[←hm4] at hown;have hlen4:m4+r2.length≤20001:=by omega
    obtain⟨a4,c4,rfl⟩:=row_slice hown;obtain⟨acc2,ha2⟩:∃q,q=acc.snoc ⟨o,n,b,k⟩:=⟨_,rfl⟩
    obtain⟨xs2,hx2⟩:∃q,q=xs ++ [.int .i64 o,encStr n,.bool b,.slice a2 nk c2]:=⟨_,rfl⟩
    rw[←ha2] at HK4 HO4 HM4 HQ3;rw[←hx2] at HK4 HO4;clear hown hgrow hat hob hch hOB hm4 ha2 hx2 HK2 HKC2 HROW HBA;go_wp2_with fail;refine(HHAS.out r2 en _ HT4.out).mono ?_;rintro e w5 ⟨rfl,hw5⟩
    cases hh:rHas en r2 with
    | some u=>
     rw[hh] at hw5;have hw5':w5=w4.setCell ⟨rb,0,none⟩ (.string ⟨u.toArray⟩):=hw5;have hq:=HQ3.out;rw[hh] at hq;have hrow5:w5.ownsRow w1.heap.size 27 4 (.slice a4 m4 c4) acc2.len xs2:=by
      rw[hw5'];exact row_st (p:=⟨rb,0,none⟩) HO4.out (by dsimp only;omega) (.string ⟨u.toArray⟩)
     have hkl5:KL (fun q=>w1.heap.size≤q∧q<w4.heap.size∧some q≠(Value.slice a4 m4 c4).ownBlock) w5 acc2 xs2:=by
      rw[hw5'];exact HK4.out.keep (fun q hq=>hq) (fun q hq=>Below.heap_setCell _ _ _ _ (by dsimp only;omega))
     have hz5:w5.heap.size=w4.heap.size:=by rw[hw5'];simp
     have hkc5:KC w1.heap.size w5.heap.size w5 acc2 a4:=KL.kc (fun q hq=>⟨hq.1,by rw[hz5];exact hq.2.1⟩) hkl5 hrow5 (Nat.le_refl _) (Nat.le_refl _);have HFIN:=qq (HYES.out acc2 u a4 c4 w5 hq hkc5 (by rw[hw5'];exact rd_set HT4.out) (by rw[hw5'];exact gr_setb HG4.out 0 _));clear hrow5 hkl5 hz5 hkc5;rw[←HM4.out] at HFIN;clear hw5 hw5' hh hq;go_wp2_with fail
     (try go_ret)
     exact HFIN.out
    | none=>
     rw[hh] at hw5;have hw5':w5=w4:=hw5;subst hw5';have HQ4:Hid (Q=(rHas bt r2).bind fun u=>rdGo g1 d u (some (bt,en,acc2))):=qq (by have:=HQ3.out;rw[hh] at this;exact this);clear hw5 hh HQ3;have HT5:Hid (RdB w5.drew rb r2 d):=qq HT4.out.drew;have HHB:=qq (HHAS.out r2 bt _ HT5.out)
     cases hbt:rHas bt r2 with
     | none=>
      rw[hbt] at HHB;have hqn:Q=none:=by rw[HQ4.out,hbt];rfl
      have HFIN:=qq (HNO.out w5.drew hqn ⟨r2,HT5.out⟩ (gr_drew HG4.out));clear hbt hqn;go_wp2_with fail;refine reg_startZ (fun w'=>Below w0.heap.size w0 w') (fun w'=>w'=w5.drew) (by kernel_rfl) (bel_drew HB4.out) rfl (fun _=>false) ?_;rintro w6 hHeld rfl;refine takeX (d:=some 20) 0 rfl rfl hHeld (fun w' hS'=>by clear hS';go_simp;(try rfl)) ?_;simp only[puts]
      refine takeX (d:=some 21) 1 rfl rfl hHeld (fun w' hS'=>by clear hS';go_simp;(try rfl)) ?_;simp only[puts];refine takeX (d:=some 23) 3 rfl rfl hHeld (fun w' hS'=>by have qG:=HGE.out _ hS';clear hS';go_simp;(try rfl)) ?_;simp only[puts];refine call_Z (d:=some 22) 2 63 _ _ [.pointer (some ⟨rb,0,none⟩),.string ⟨#[bt]⟩] rfl rfl rfl (enters_of Tryz.func63 (by kernel_rfl) rfl) (by rfl) (by rfl) ?_
      refine HHB.out.mono ?_;rintro e w7 ⟨rfl,hw7⟩;have hw7':w7=w5.drew:=hw7;subst hw7';refine⟨_,rfl,.inr hHeld,?_⟩;simp only[puts];refine one_X 4 (by kernel_rfl) ?_;refine wpOp_die [{v:=errV (ea 4),recovered:=false}] 4 41 _ _ [.bool false,errV (ea 4)] rfl rfl (enters_of Tryz.func41 (by kernel_rfl) rfl) (by rfl) (by rfl) ?_;refine(fail_no _ _).mono ?_;rintro e w8 ⟨rfl,rfl⟩;exact⟨rfl,rfl,HFIN.out⟩
     | some u=>
      rw[hbt] at HHB;have hu:=rHas_len hbt;have HQ5:Hid (Q=rdGo g1 d u (some (bt,en,acc2))):=qq (by rw[HQ4.out,hbt];rfl);clear hbt HQ4;go_wp2_with fail;refine reg_startZ (fun w'=>Below w0.heap.size w0 w') (fun w'=>w'=w5.drew) (by kernel_rfl) (bel_drew HB4.out) rfl (fun _=>false) ?_;rintro w6 hHeld rfl;refine takeX (d:=some 20) 0 rfl rfl hHeld (fun w' hS'=>by clear hS';go_simp;(try rfl)) ?_
      simp only[puts];refine takeX (d:=some 21) 1 rfl rfl hHeld (fun w' hS'=>by clear hS';go_simp;(try rfl)) ?_;simp only[puts];refine takeX (d:=some 23) 3 rfl rfl hHeld (fun w' hS'=>by have qG:=HGE.out _ hS';clear hS';go_simp;(try rfl)) ?_;simp only[puts]
      refine call_Z (d:=some 22) 2 63 _ _ [.pointer (some ⟨rb,0,none⟩),.string ⟨#[bt]⟩] rfl rfl rfl (enters_of Tryz.func63 (by kernel_rfl) rfl) (by rfl) (by rfl) ?_;refine HHB.out.mono ?_;rintro e w7 ⟨rfl,hw7⟩;have hw7':w7=w5.drew.setCell ⟨rb,0,none⟩ (.string ⟨u.toArray⟩):=hw7;replace hHeld:Below w0.heap.size w0 w7:=by rw[hw7'];exact bel_set hHeld HR.out _
      refine⟨_,rfl,.inr hHeld,?_⟩;simp only[puts];refine call_Z (d:=some 24) 4 41 _ _ [.bool true,errV (ea 4)] rfl rfl rfl (enters_of Tryz.func41 (by kernel_rfl) rfl) (by rfl) (by rfl) ?_;refine(fail_yes _ _).mono ?_;rintro e w8 ⟨rfl,rfl⟩;refine⟨_,rfl,.inr hHeld,?_⟩;simp only[puts];refine doneX (by kernel_rfl) ?_ _;have HT7:Hid (RdB w7 rb u d):=qq (by rw[hw7'];exact rd_set HT5.out)
      have HG7:Hid (w1.grownBy w7 (some rb)):=qq (by rw[hw7'];exact gr_setb (gr_drew HG4.out) 0 _);have HO7:Hid (w7.ownsRow w1.heap.size 27 4 (.slice a4 m4 c4) acc2.len xs2):=qq (by rw[hw7'];exact row_st (p:=⟨rb,0,none⟩) (row_dr HO4.out) (by dsimp only;omega) (.string ⟨u.toArray⟩));have HK7:Hid (KL (fun q=>w1.heap.size≤q∧q<w7.heap.size∧some q≠(Value.slice a4 m4 c4).ownBlock) w7 acc2 xs2):=qq (by
        rw[hw7'];refine KL.keep (w:=w5) (S:=fun q=>w1.heap.size≤q∧q<w5.heap.size∧some q≠(Value.slice a4 m4 c4).ownBlock) (fun q hq=> ?_) (fun q hq=> ?_) acc2 xs2 HK4.out
        · exact⟨hq.1,by simpa using hq.2.1,hq.2.2⟩
        · exact Below.heap_setCell w5.drew _ _ q (by dsimp only;omega))
      have HB7:=qq hHeld;clear hw7 hw7' hHeld;go_wp2_with fail;go_roundw
      case rel=>exact⟨g1,u,acc2,xs2,by omega,by omega,by rw[←HM4.out];omega,HQ5,HO7,HK7,HT7,HG7,HB7⟩
      case measure=>rw[strAt_rd HT7.out,strAt_rd HT.out];omega
theorem tree_go (g : Nat) : ∀ (v : Value) (row : List Pc) (i : Nat) (w : World), row.length - i ≤ g → i < row.length → row.length ≤ 30 → PcsV w v row →
    Calls Tryz.prog 10 #[v,.int .i64 (i:Int)] w (ExGives (pTree row i) w):=by
 induction g with
 | zero=>intro v row i w hg hi;omega
 | succ g ih=>
  intro v row i w hg hi h30 hV;obtain⟨i0,ei,ez,es,eb⟩:=info_parts infoEx;obtain⟨p,hp⟩:∃p,row[i]? =some p:=⟨_,List.getElem?_eq_getElem hi⟩
  have HRES:Hid (∀a c n w',n=(tK row (row.length - (i+1)) i).len→KC w.heap.size w'.heap.size w' (tK row (row.length - (i+1)) i) a→Below w.heap.size w w'→ExGives (pTree row i) w (.returned (.agg #[p.op,.string ⟨p.nm.toArray⟩,.bool p.opt,.slice a n c])) w'):=qq (fun a c n w' hn h1 h2=>by
    have e:pTree row i=⟨p.op,p.nm,p.opt,tK row (row.length - (i+1)) i⟩:=by unfold pTree;rw[hp]
    rw[e];exact⟨a,c,by rw[hn];rfl,h1,h2⟩)
  have HPV:=qq (fun W (hW:Below w.heap.size w W)=>hV.below hW);have IH:=qq (fun W k (hW:Below w.heap.size w W) (hk:i<k) (hk2:k<row.length)=>ih v row k W (by omega) hk2 h30 (hV.below hW));generalize ExGives (pTree row i) w=R at HRES⊢;obtain⟨av,cv,rfl,hcells⟩:=hV;obtain⟨b,o,rfl,hbw,c0,c1,c2,c3⟩:=hcells i p hp;obtain⟨n,hn⟩:∃n,n=row.length:=⟨_,rfl⟩
  have HN:=qq hn;rw[←hn] at hi h30 HRES IH⊢;obtain⟨pp,OP,nm,opt⟩:=p;dsimp only at c0 c1 c2 c3 HRES;clear hcells hg ih hn hp;have hi0:(0:Int)≤(i:Int):=by omega
  have hi1:(i:Int)<(n:Int):=by omega
  go_enter Tryz.func10,Tryz.ntmps10;go_wp2_with fail;have HB0:Below w.heap.size w (w.alloc (.cells exZ 27)):=(Below.refl _ _).alloc (Nat.le_refl _) _;have HP0:(w.alloc (.cells exZ 27)).heap[w.heap.size]? =some (.cells exZ 27 (0,0)):=hp_new _ rfl;have C0:=qq c0;have C1:=qq c1;have C2:=qq c2;have C3:=qq c3;have HBW:=qq hbw
  refine reg_start2 (fun w'=>Below w.heap.size w w') (fun w'=>w'=(w.alloc (.cells exZ 27)).drew) (by kernel_rfl) (bel_drew HB0) rfl ?_;rintro w1 hHeld hw1;clear c0 c1 c2 c3;refine takeM (d:=some 7) 0 rfl rfl hHeld (fun w' hS'=>by clear hS';go_simp;(try rfl)) ?_;simp only[puts];refine takeM (d:=some 8) 1 rfl rfl hHeld (fun w' hS'=>by clear hS';go_simp;(try rfl)) ?_;simp only[puts]
  refine takeM (d:=some 9) 2 rfl rfl hHeld (fun w' hS'=>by clear hS';go_simp;(try rfl)) ?_;simp only[puts];refine takeM (d:=some 10) 3 rfl rfl hHeld (fun w' hS'=>by clear hS';go_simp;(try rfl)) ?_;simp only[puts];refine takeM (d:=some 11) 4 rfl rfl hHeld (fun w' hS'=>by have qc:=(hS'.cell (p:=⟨b,_,none⟩) HBW.out).trans C1.out;clear hS';go_simp;(try rfl)) ?_;simp only[puts]
  refine takeM (d:=some 12) 5 rfl rfl hHeld (fun w' hS'=>by clear hS';go_simp;(try rfl)) ?_;simp only[puts];refine takeM (d:=some 13) 6 rfl rfl hHeld (fun w' hS'=>by clear hS';go_simp;(try rfl)) ?_;simp only[puts];refine takeM (d:=some 14) 7 rfl rfl hHeld (fun w' hS'=>by clear hS';go_simp;(try rfl)) ?_;simp only[puts]
  refine takeM (d:=some 15) 8 rfl rfl hHeld (fun w' hS'=>by clear hS';go_simp;(try rfl)) ?_;simp only[puts];refine takeM (d:=some 16) 9 rfl rfl hHeld (fun w' hS'=>by have qc:=(hS'.cell (p:=⟨b,_,none⟩) HBW.out).trans C2.out;clear hS';go_simp;(try rfl)) ?_;simp only[puts];refine takeM (d:=some 17) 10 rfl rfl hHeld (fun w' hS'=>by clear hS';go_simp;(try rfl)) ?_;simp only[puts]
  refine takeM (d:=some 18) 11 rfl rfl hHeld (fun w' hS'=>by clear hS';go_simp;(try rfl)) ?_;simp only[puts];refine takeM (d:=some 19) 12 rfl rfl hHeld (fun w' hS'=>by clear hS';go_simp;(try rfl)) ?_;simp only[puts];refine takeM (d:=some 20) 13 rfl rfl hHeld (fun w' hS'=>by clear hS';go_simp;(try rfl)) ?_;simp only[puts]
  refine takeM (d:=some 21) 14 rfl rfl hHeld (fun w' hS'=>by have qc:=(hS'.cell (p:=⟨b,_,none⟩) HBW.out).trans C3.out;clear hS';go_simp;(try rfl)) ?_;simp only[puts];refine takeM (d:=some 22) 15 rfl rfl hHeld (fun w' hS'=>by clear hS';go_simp;(try rfl)) ?_;simp only[puts];refine one_M 16 (by kernel_rfl) ?_
  refine new_T (d:=some 5) 16 (.pointer (some ⟨w1.heap.size,0,none⟩)) exZ 27 rfl rfl (by go_simp) (bel_alloc hHeld _) ?_;rintro w2 hHeld;simp only[puts];refine last_row 17 27 _ _ rfl rfl rfl w1.heap.size #[.int .i64 OP,.string ⟨nm.toArray⟩,.bool opt,.slice none 0 0] exZ 27 hHeld.2.1.2 rfl rfl (by kernel_rfl) rfl (by simp[Value.oneCell']) ?_;intro w3 hb3 hg3
  have hz1:w1.heap.size=w.heap.size+1:=by rw[hw1];simp
  have hBB:=hHeld.2.2;obtain⟨le,qe,fe⟩:=hb3;have HBE:Hid (Blk w3 (w.heap.size+1) #[OP,.string ⟨nm.toArray⟩,.bool opt,.slice none 0 0]):=qq (by rw[←hz1];exact⟨le,qe,fe⟩);have HP3:Hid (w3.heap[w.heap.size]? =some (.cells exZ 27 (0,0))):=qq ((hg3.block _ (by have:=hBB.size;omega) (fun e=>by injection e with e;omega)).trans (hp_be (by rw[hw1];exact hp_dr HP0) hBB))
  have HB3:=qq (bel_gr hHeld.1 hg3 (by omega));clear hHeld hBB hg3 HB0 HP0 qe fe hbw;rw[hz1];clear hz1 hw1;go_wp2_with fail
  go_loopw [6] (fun kk wr=>∃(k m:Nat) (acc:PF) (ao:Option Addr) (co:Nat),i<k∧k≤n∧m≤k∧kk=.int .i64 (k:Int)∧Hid (acc.app (tK row (n - k) i)=tK row (n - (i+1)) i)∧Hid (KidsIn (w.heap.size+1+1) 27 wr acc (.slice ao m co) m)∧Hid (Blk wr (w.heap.size+1) #[OP,.string ⟨nm.toArray⟩,.bool opt,.slice ao m co])∧Hid (wr.heap[w.heap.size]? =some (.cells exZ 27 (0,0)))∧Hid (Below w.heap.size w wr)) (fun kk _=>n - (intOf kk).toNat)
  case atStart=>exact⟨i+1,0,.nil,none,0,by omega,by omega,by omega,by first | rfl | go_num,qq rfl,qq (KidsIn.nil _ _ _),HBE,HP3,HB3⟩
  case round=>
   obtain⟨k,m,acc,ao,co,hik,hkn,hmk,rfl,HAC,HO,HT,HP,HB⟩:=hrel;have hk0:(0:Int)≤(k:Int):=by omega
   have hwr:=HB.out.size;have hpl:=(Array.getElem?_eq_some_iff.1 HP.out).1;have htl:=HT.out.lt;by_cases hlt:k<n
   · have hk1:(k:Int)<(n:Int):=by omega
     obtain⟨p,hp⟩:∃p,row[k]? =some p:=⟨_,List.getElem?_eq_getElem (by rw[←HN.out];exact hlt)⟩
     obtain⟨a',c',ev,hc⟩:=HPV.out _ HB.out;injection ev with ev1 _ ev2
     subst ev1 ev2;obtain⟨b',o',ev3,hbw,c0,c1,c2,c3⟩:=hc k p hp;injection ev3 with ev3
     injection ev3 with ev3 ev4
     subst ev3 ev4;have HTK:=qq (tK_at (i:=i) hp);rw[←HN.out] at HTK;obtain⟨pp2,po,pn,pt⟩:=p;dsimp only at c0 c1 c2 c3 HTK;have HPK:=qq hp;clear hc hp c1 c2 c3;have hpe:(wrap64 ((IntKind.u64.wrap pp2).tmod (k:Int))==(i:Int))=decide (parOf pp2 k=(i:Int)):=rfl;by_cases hpar:parOf pp2 k=(i:Int)
     · rw[decide_eq_true hpar] at hpe;have HT2:=qq (HTK.out.trans (if_pos hpar));have HCK:=qq (fun W (hb:Below wr.heap.size wr W)=>IH.out W k (below_then HB.out hb) hik hlt);have HPE:Hid (pTree row k=⟨po,pn,pt,tK row (n - (k+1)) k⟩):=qq (by unfold pTree;rw[HPK.out,←HN.out]);rw[HPE.out] at HCK;clear hpar HPE HTK;go_wp2_with fail;clear c0 hpe
       refine reg_startZ (fun w'=>Below w.heap.size w w'∧Blk w' (w.heap.size+1) #[OP,.string ⟨nm.toArray⟩,.bool opt,.slice ao m co]) (fun w'=>Below wr.heap.size wr w') (by kernel_rfl) ⟨bel_drew HB.out,HT.out.drew⟩ (Below.refl _ _).drew (fun x=>x==8) ?_;rintro w1 hHeld hB1;refine takeX (d:=some 43) 0 rfl rfl hHeld (fun w' hS'=>by clear hS';go_simp;(try rfl)) ?_;simp only[puts]
       refine takeX (d:=some 44) 1 rfl rfl hHeld (fun w' hS'=>by have qA:=hS'.2.cell;clear hS';go_simp;(try rfl)) ?_;simp only[puts];refine takeX (d:=some 45) 2 rfl rfl hHeld (fun w' hS'=>by clear hS';go_simp;(try rfl)) ?_;simp only[puts];refine takeX (d:=some 46) 3 rfl rfl hHeld (fun w' hS'=>by clear hS';go_simp;(try rfl)) ?_;simp only[puts]
       refine call_Z (d:=some 47) 4 10 _ _ [.slice (some ⟨b,o,none⟩) n cv,.int .i64 (k:Int)] rfl rfl rfl (enters_of Tryz.func10 (by kernel_rfl) rfl) (by rfl) (by rfl) ?_;refine(HCK.out w1 hB1).mono ?_;rintro e w2 ⟨a2,c2',rfl,hkc,hb2⟩;have hB2:=below_then hB1 hb2
       replace hHeld:Below w.heap.size w w2∧Blk w2 (w.heap.size+1) #[OP,.string ⟨nm.toArray⟩,.bool opt,.slice ao m co]:=⟨below_then hHeld.1 hb2,hHeld.2.below hb2⟩
       refine⟨_,rfl,.inr hHeld,?_⟩;unfold exA;simp only[puts];dsimp only at hkc;have HB1z:=hB1.size;have HKC2:=qq hkc;have HW2:=qq (⟨rfl,hB2⟩:w2=w2∧Below wr.heap.size wr w2);have hB3:Below wr.heap.size wr (w2.alloc (.cells #[po,.string ⟨pn.toArray⟩,.bool pt,.slice a2 (tK row (n - (k+1)) k).len c2'] 27)):=bel_alloc hB2 _
       refine new_X (d:=some 48) 5 (.slice (some ⟨w2.heap.size,0,none⟩) 1 1) #[.int .i64 po,.string ⟨pn.toArray⟩,.bool pt,.slice a2 (tK row (n - (k+1)) k).len c2'] 27 rfl rfl (by go_simp) ⟨bel_alloc hHeld.1 _,hHeld.2.alloc _⟩ ?_;intro hHeld kF;simp only[puts];have HO3:=qq (HO.out.below hB3);have HT3:=qq hHeld.2;have HP3:=qq (hp_be HP.out hB3);have HO2:=qq (HO.out.below HW2.out.2)
       obtain⟨hacl,xs2,hrow2,hkl2⟩:=HO2.out;have h2z:=HW2.out.2.size
       refine app_X (d:=some 49) 6 rfl rfl rfl (.tmp 44) (.tmp 48) 25 rfl (w.heap.size+1+1) 27 i0 (.agg #[.int .i64 0,.string ⟨#[]⟩,.bool false,.slice none 0 0]) 4 56 Tryz.underlying25 ei ez es eb rfl (by decide) (.slice ao m co) m xs2 (by rfl) (row_al hrow2 _) ⟨w2.heap.size,0,none⟩ 1 1 (exL' ⟨po,pn,pt,tK row (n - (k+1)) k⟩ a2 c2') (by rfl) rfl (lit_cells kF) (by intro u hu;simp at hu;rcases hu with rfl | rfl | rfl | rfl<;>rfl) (by unfold maxLen;omega) (by omega) (by simp;omega) ?_
       intro v4 w5 hown hgrow hat;have HK4:=qq (KidsIn.more (e:=⟨po,pn,pt,tK row (n - (k+1)) k⟩) (B1:=w1.heap.size) hacl hrow2 hkl2 HKC2.out (by omega) (fun q hq=>by have:=(HO.out.lt q hq).2;omega) rfl hown hgrow hat);obtain⟨a4,c4,rfl⟩:=HK4.out.slice;have hgz:=hgrow.size;have hch:=fun q hq hne=>hgrow.block q hq hne
       have hgz':=hgz;simp only[World.size_alloc] at hgz' hch;have hBw5:Below w.heap.size w w5:=hHeld.1.grown hgrow (by simp;omega) (fun q hq=>by have:=(HO.out.lt q hq).1;omega);clear hown hgrow hat hrow2 hkl2 hacl;have HT5:=qq (Blk.same (HT3.out) hgz (hch _ (by omega) (fun hq=>by have:=(HO3.out.lt _ hq.symm).1;omega)))
       have HP5:Hid (w5.heap[w.heap.size]? =some (.cells exZ 27 (0,0))):=qq ((hch _ (by omega) (fun hq=>by have:=(HO3.out.lt _ hq.symm).1;omega)).trans HP3.out);replace hHeld:Below w.heap.size w w5∧Blk w5 (w.heap.size+1) #[OP,.string ⟨nm.toArray⟩,.bool opt,.slice ao m co]:=⟨hBw5,HT5.out⟩
       refine⟨.inr hHeld,?_⟩;simp only[puts];refine takeX (d:=some 50) 7 rfl rfl hHeld (fun w' hS'=>by clear hS';go_simp;(try rfl)) ?_;simp only[puts];refine set_X 8 (w5.setCell ⟨w.heap.size+1,3,none⟩ (.slice a4 (m+1) c4)) rfl rfl (by have qA:=HT5.out.cell;have fA:=HT5.out.free;clear hHeld;go_simp) (.inl rfl) ?_;refine doneX (by kernel_rfl) ?_ _
       have HTF:Hid (Blk (w5.setCell ⟨w.heap.size+1,3,none⟩ (.slice a4 (m+1) c4)) (w.heap.size+1) #[.int .i64 OP,.string ⟨nm.toArray⟩,.bool opt,.slice a4 (m+1) c4]):=qq (by
         have:=HT5.out.set' 3 (by simp) (.slice a4 (m+1) c4);simpa using this)
       have HPF:=qq (hp_st HP5.out (p:=⟨w.heap.size+1,3,none⟩) (by dsimp only;omega) (.slice a4 (m+1) c4));have HKF:=qq (HK4.out.set (p:=⟨w.heap.size+1,3,none⟩) (by dsimp only;omega) (.slice a4 (m+1) c4));have HBF:=qq (bel_set hBw5 (p:=⟨w.heap.size+1,3,none⟩) (by dsimp only;omega) (.slice a4 (m+1) c4))
       have HAF:Hid ((acc.snoc ⟨po,pn,pt,tK row (n - (k+1)) k⟩).app (tK row (n - (k+1)) i)=tK row (n - (i+1)) i):=qq (by rw[←PF.app_cons,←HT2.out,HAC.out]);clear hHeld hB1 hB2 hB3 hBw5 hch hgz hgz';generalize w5.setCell ⟨w.heap.size+1,3,none⟩ (.slice a4 (m+1) c4)=w6 at*;go_wp2_with fail;go_roundw
       case rel=>exact⟨k+1,m+1,_,a4,c4,by omega,by omega,by omega,by go_num,HAF,HKF,HTF,HPF,HBF⟩
       case measure=>simp[intOf];omega
     · rw[decide_eq_false hpar] at hpe;have HT2:=qq (HTK.out.trans (if_neg hpar));have HAF:Hid (acc.app (tK row (n - (k+1)) i)=tK row (n - (i+1)) i):=qq (by rw[←HT2.out,HAC.out]);clear hpar;go_wp2_with fail;go_roundw
       case rel=>exact⟨k+1,m,acc,ao,co,by omega,by omega,by omega,by go_num,HAF,HO,HT,HP,HB⟩
       case measure=>simp[intOf];omega
   · obtain rfl:n=k:=by omega
     have HAE:Hid (acc=tK row (n - (i+1)) i):=qq (by have:=HAC.out;rw[Nat.sub_self] at this;rw[←this];exact(PF.app_nil acc).symm);have HML:Hid (m=(tK row (n - (i+1)) i).len):=qq (by rw[←HAE.out];exact HO.out.1);have HKC2:Hid (KC (w.heap.size+1+1) wr.heap.size wr (tK row (n - (i+1)) i) ao):=qq (by have:=HO.out.kc (Nat.le_refl _);rwa[HAE.out] at this);obtain⟨lt,qt,ft⟩:=HT.out
     go_wp2_with (refine row_go 27 (.tmp 4) (.tmp 51) rfl rfl w.heap.size #[.int .i64 OP,.string ⟨nm.toArray⟩,.bool opt,.slice ao m co] exZ 27 HP.out rfl rfl (by kernel_rfl) rfl (by simp[Value.oneCell']) ?_);intro w5 hb5 hg5;have hz5:=hg5.size
     have HF:=qq (HRES.out ao co m w5 HML.out (HKC2.out.keep (by omega) hz5 (fun k hk1 hk2=>hg5.block k hk2 (fun e=>by injection e with e;omega))) (bel_gr HB.out hg5 (by omega)));clear qt ft;obtain⟨l5,q5,f5⟩:=hb5;go_wp2_with fail;exact bodyPost_ret (v:=.agg #[OP,.string ⟨nm.toArray⟩,.bool opt,.slice ao m co]) (by simp[results,Tryz.results10,go_sem,q5,f5]) rfl HF.out
end Go.Proofs.YtbepkpjcjpmpmaaGreatDoor
