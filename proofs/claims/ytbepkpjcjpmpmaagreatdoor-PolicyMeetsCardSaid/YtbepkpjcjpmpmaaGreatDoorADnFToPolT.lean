/- DnF, PcA, PcB, PolO, KidG, PolT -/
import Derived.Test.YtbepkpjcjpmpmaaGreatDoorADnE
set_option linter.unusedSimpArgs false
set_option linter.unusedVariables false
set_option maxRecDepth 100000
set_option maxHeartbeats 16000000
namespace Go.Proofs.YtbepkpjcjpmpmaaGreatDoor
open Go.RowKit Go.Shelf
def RNormalEnds (r:List PAlt×Int) (w:World) (e:Ending) (w':World):Prop:=∃v,e=.returned (.tuple #[v,.int .i64 r.2])∧AltsV 49 w.heap.size w' v r.1∧Below w.heap.size w w'
theorem rNormal_of (e : PE) (a : Option Addr) (c B E : Nat) (w : World) (hnm : e.nm.length ≤ 100000) (hkl : e.kids.len ≤ 100000) (hsm : e.kids.small) (hK : KC B E w e.kids a) (hE : E ≤ w.heap.size) :
    Calls Tryz.prog 12 #[.agg (exA e a c)] w (RNormalEnds (pNormal e) w):=by
 have HSZ:=qq (fun W (hW:Below w.heap.size w W)=>size_go (e.kids.sz+1) e 1 a c B E W (by omega) hnm hkl hsm (hK.below hE hW) (Nat.le_trans hE hW.size) (by omega));have HRES:Hid (∀r v w',pNormal e=r→AltsV 49 w.heap.size w' v r.1→Below w.heap.size w w'→RNormalEnds (pNormal e) w (.returned (.tuple #[v,.int .i64 r.2])) w'):=qq (fun r v w' h1 h2 h3=>by rw[h1];exact⟨v,rfl,h2,h3⟩)
 have HDEF:Hid (pNormal e=(if pRight e then(match pNorm e with | some l=>(l,0) | none=>([],6)) else([],4):List PAlt×Int)):=qq rfl;have HRT:=qq (right_size e);generalize RNormalEnds (pNormal e) w=R at HRES⊢;have KB:Hid (Blk (w.alloc (.cells (exA e a c) 38)) w.heap.size (exA e a c)):=qq (Blk.fresh w _ _ _ rfl)
 have HB0:Hid (Below w.heap.size w (w.alloc (.cells (exA e a c) 38))):=qq ((Below.refl _ _).alloc (Nat.le_refl _) _);by_cases hr:pRight e=true
 · have hsz:rSize e 1≤200:=by have:=HRT.out;rw[hr] at this;simpa using this.symm
   have hsz':¬(200:Int)<(rSize e 1:Int):=by omega
   have hks:=pRight_sz hr;have HNR:=qq (fun W (hW:Below w.heap.size w W)=>rnormal_go 250 e a c B E W (by omega) (by omega) hkl hsm (hK.below hE hW) (Nat.le_trans hE hW.size));clear hK hE hsz;generalize rSize e 1=q at*
   cases hpn:pNorm e with
   | none=>
    have HF:=qq (fun w' hw=>HRES.out ([],6) (.slice none 0 0) w' (by rw[HDEF.out,if_pos hr,hpn]) (AltsV.nil _ _ _) hw);obtain⟨op,nm,opt,kids⟩:=e;unfold exA at*;dsimp only at*;obtain⟨lk,qk,fk⟩:=KB.out;clear HRES HDEF HRT hr hnm hkl hsm hks;go_enter Tryz.func12,Tryz.ntmps12;go_wp2_with fail;refine(HSZ.out _ HB0.out).mono ?_;rintro e w1 ⟨rfl,hb1⟩;have HK1:=qq (KB.out.below hb1)
    have HB1:=qq (below_then HB0.out hb1);clear lk qk fk hb1;obtain⟨lk,qk,fk⟩:=HK1.out;go_wp2_with fail;refine(HNR.out _ HB1.out).mono ?_;rintro e w2 ⟨_,hno⟩;obtain⟨v2,rfl,hb2⟩:=hno hpn;have HFF:=qq (HF.out w2 (below_then HB1.out hb2));clear hno hpn hb2;go_wp2_with fail
    (try go_ret)
    exact HFF.out
   | some l=>
    have HF:=qq (fun v w'=>HRES.out (l,0) v w' (by rw[HDEF.out,if_pos hr,hpn]));obtain⟨op,nm,opt,kids⟩:=e;unfold exA at*;dsimp only at*;obtain⟨lk,qk,fk⟩:=KB.out;clear HRES HDEF HRT hr hnm hkl hsm hks;go_enter Tryz.func12,Tryz.ntmps12;go_wp2_with fail;refine(HSZ.out _ HB0.out).mono ?_;rintro e w1 ⟨rfl,hb1⟩;have HK1:=qq (KB.out.below hb1);have HB1:=qq (below_then HB0.out hb1);clear lk qk fk hb1
    obtain⟨lk,qk,fk⟩:=HK1.out;have hz1:=HB1.out.size;go_wp2_with fail;refine(HNR.out _ HB1.out).mono ?_;rintro e w2 ⟨hyes,_⟩;obtain⟨v2,rfl,hv2,hb2⟩:=hyes l hpn;have HFF:=qq (HF.out v2 w2 (hv2.base hz1) (below_then HB1.out hb2));obtain⟨a2,c2,rfl⟩:=hv2.row;clear hyes hpn hb2 hv2;go_wp2_with fail
    (try go_ret)
    exact HFF.out
 · have hr':pRight e=false:=by simpa using hr
   have hsz:¬rSize e 1≤200:=by have:=HRT.out;rw[hr'] at this;simpa using this.symm
   have hsz':(200:Int)<(rSize e 1:Int):=by omega
   have HF:=qq (fun w' hw=>HRES.out ([],4) (.slice none 0 0) w' (by rw[HDEF.out,if_neg hr]) (AltsV.nil _ _ _) hw);clear hK hE hsz;generalize rSize e 1=q at*;obtain⟨op,nm,opt,kids⟩:=e;unfold exA at*;dsimp only at*;obtain⟨lk,qk,fk⟩:=KB.out;clear HRES HDEF HRT hr hr' hnm hkl hsm;go_enter Tryz.func12,Tryz.ntmps12;go_wp2_with fail;refine(HSZ.out _ HB0.out).mono ?_;rintro e w1 ⟨rfl,hb1⟩
   have HFF:=qq (HF.out w1 (below_then HB0.out hb1));clear lk qk fk hb1;go_wp2_with fail
   (try go_ret)
   exact HFF.out
theorem sameTexts_yes (Ba Bb:Nat) (va vb:Value) (s:PAlt) (w:World) (ha:AltV Ba w va s) (hb:AltV Bb w vb s) (hl:s.length≤100000):Calls Tryz.prog 33 #[va,vb] w (Makes (.bool true) w):=by
 have HA:=qq (fun W (hW:Below w.heap.size w W)=>alt_cell (row_be ha hW));have HB:=qq (fun W (hW:Below w.heap.size w W)=>alt_cell (row_be hb hW));obtain⟨aa,ca,rfl,_⟩:=alt_cell ha;obtain⟨ab,cb,rfl,_⟩:=alt_cell hb;obtain⟨n,hn⟩:∃n,n=s.length:=⟨_,rfl⟩
 have HN:=qq hn;rw[←hn] at hl⊢;clear ha hb hn;go_enter Tryz.func33,Tryz.ntmps33;go_wp2_with fail;go_loopw [13] (fun cc wr=>∃i:Nat,i≤n∧cc=.int .i64 (i:Int)∧Hid (Below w.heap.size w wr)) (fun cc _=>n - (intOf cc).toNat)
 case atStart=>exact⟨0,by omega,by first | rfl | go_num,qq (Below.refl _ _)⟩
 case round=>
  obtain⟨i,hi,rfl,HBE⟩:=hrel;have hi0:(0:Int)≤(i:Int):=by omega
  by_cases hlt:i<n
  · have h1:(i:Int)<(n:Int):=by omega
    obtain⟨x,hx⟩:∃x,s[i]? =some x:=⟨_,List.getElem?_eq_getElem (by rw[←HN.out];exact hlt)⟩
    obtain⟨_,_,ea,hca⟩:=HA.out _ HBE.out;injection ea with ea1 ean ea2
    clear ean;subst ea1 ea2;obtain⟨ga,rfl,cA,lA,kA⟩:=hca i x hx;obtain⟨_,_,eb,hcb⟩:=HB.out _ HBE.out;injection eb with eb1 ebn eb2
    clear ebn;subst eb1 eb2;obtain⟨gb,rfl,cB,lB,kB⟩:=hcb i x hx;rw[←HN.out] at kA kB;clear hca hcb hx hlt;go_wp2_with fail;refine reg_start (fun w'=>w'=wr.drew) (by kernel_rfl) rfl ?_;rintro w1 hHeld;refine takeM (d:=some 16) 0 rfl rfl hHeld (fun w' hS'=>by subst hS';go_simp;(try rfl)) ?_;simp only[puts];refine takeM (d:=some 17) 1 rfl rfl hHeld (fun w' hS'=>by subst hS';go_simp;(try rfl)) ?_
    simp only[puts];refine takeM (d:=some 18) 2 rfl rfl hHeld (fun w' hS'=>by subst hS';go_simp;(try rfl)) ?_;simp only[puts];refine takeM (d:=some 19) 3 rfl rfl hHeld (fun w' hS'=>by subst hS';have qc:=cA;go_simp;(try rfl)) ?_;simp only[puts];refine takeM (d:=some 20) 4 rfl rfl hHeld (fun w' hS'=>by subst hS';go_simp;(try rfl)) ?_;simp only[puts]
    refine takeM (d:=some 21) 5 rfl rfl hHeld (fun w' hS'=>by subst hS';go_simp;(try rfl)) ?_;simp only[puts];refine takeM (d:=some 22) 6 rfl rfl hHeld (fun w' hS'=>by subst hS';go_simp;(try rfl)) ?_;simp only[puts];refine takeM (d:=some 23) 7 rfl rfl hHeld (fun w' hS'=>by subst hS';have qc:=cB;go_simp;(try rfl)) ?_;simp only[puts]
    refine takeM (d:=some 24) 8 rfl rfl hHeld (fun w' hS'=>by subst hS';go_simp;(try rfl)) ?_;simp only[puts];refine doneM (by kernel_rfl) ?_ _;subst hHeld;have HBF:=qq (bel_drew HBE.out);clear cA cB;go_wp2_with fail;go_roundw
    case rel=>exact⟨i+1,by omega,by go_num,HBF⟩
    case measure=>simp[intOf];omega
  · go_wp2_with fail;go_ret;exact⟨rfl,HBE.out⟩
theorem same29_yes (Ba Bb:Nat) (va vb:Value) (l:List PAlt) (w:World) (ha:AltsV 49 Ba w va l) (hb:AltsV 49 Bb w vb l) (hl:l.length≤100000) (hm:∀a∈l,a.length≤100000):Calls Tryz.prog 14 #[va,vb] w (Makes (.bool true) w):=by
 have HA:=qq (fun W (hW:Below w.heap.size w W)=>ha.below hW);have HB:=qq (fun W (hW:Below w.heap.size w W)=>hb.below hW);have HM:=qq hm;obtain⟨aa,ca,rfl⟩:=ha.row;obtain⟨ab,cb,rfl⟩:=hb.row;obtain⟨n,hn⟩:∃n,n=l.length:=⟨_,rfl⟩
 have HN:=qq hn;rw[←hn] at hl⊢;clear ha hb hn hm;go_enter Tryz.func14,Tryz.ntmps14;go_wp2_with fail;go_loopw [13] (fun cc wr=>∃i:Nat,i≤n∧cc=.int .i64 (i:Int)∧Hid (Below w.heap.size w wr)) (fun cc _=>n - (intOf cc).toNat)
 case atStart=>exact⟨0,by omega,by first | rfl | go_num,qq (Below.refl _ _)⟩
 case round=>
  obtain⟨i,hi,rfl,HBE⟩:=hrel;have hi0:(0:Int)≤(i:Int):=by omega
  by_cases hlt:i<n
  · have h1:(i:Int)<(n:Int):=by omega
    obtain⟨x,hx⟩:∃x,l[i]? =some x:=⟨_,List.getElem?_eq_getElem (by rw[←HN.out];exact hlt)⟩
    obtain⟨ga,a1,c1,k1,e1,hxa,hca,la⟩:=alts_at (HA.out _ HBE.out) i x hx;obtain⟨gb,a2,c2,k2,e2,hxb,hcb,lb⟩:=alts_at (HB.out _ HBE.out) i x hx;injection e1 with e1a e1n e1b
    clear e1n;subst e1a e1b;injection e2 with e2a e2n e2b
    clear e2n;subst e2a e2b;have cA:=hca wr (Below.refl _ _);have cB:=hcb wr (Below.refl _ _);have HST:=qq (fun W (hW:Below wr.heap.size wr W)=>sameTexts_yes Ba Bb _ _ x W (row_be hxa hW) (row_be hxb hW) (HM.out x (List.mem_of_getElem? hx)));obtain⟨nx,hnx⟩:∃q,q=x.length:=⟨_,rfl⟩
    rw[←hnx] at HST cA cB;clear hca hcb hx hlt hxa hxb hnx;go_wp2_with fail;have CA:=qq cA;have CB:=qq cB;clear cA cB;refine reg_start (fun w'=>Below wr.heap.size wr w') (by kernel_rfl) (Below.refl _ _).drew ?_;rintro w1 hHeld;refine takeM (d:=some 16) 0 rfl rfl hHeld (fun w' hS'=>by clear hS';go_simp;(try rfl)) ?_;simp only[puts]
    refine takeM (d:=some 17) 1 rfl rfl hHeld (fun w' hS'=>by clear hS';go_simp;(try rfl)) ?_;simp only[puts];refine takeM (d:=some 18) 2 rfl rfl hHeld (fun w' hS'=>by clear hS';go_simp;(try rfl)) ?_;simp only[puts];refine takeM (d:=some 19) 3 rfl rfl hHeld (fun w' hS'=>by have qc:=(hS'.cell (p:=⟨ga,i,none⟩) la).trans CA.out;clear hS';go_simp;(try rfl)) ?_;simp only[puts]
    refine takeM (d:=some 20) 4 rfl rfl hHeld (fun w' hS'=>by clear hS';go_simp;(try rfl)) ?_;simp only[puts];refine takeM (d:=some 21) 5 rfl rfl hHeld (fun w' hS'=>by clear hS';go_simp;(try rfl)) ?_;simp only[puts];refine takeM (d:=some 22) 6 rfl rfl hHeld (fun w' hS'=>by clear hS';go_simp;(try rfl)) ?_;simp only[puts]
    refine takeM (d:=some 23) 7 rfl rfl hHeld (fun w' hS'=>by have qc:=(hS'.cell (p:=⟨gb,i,none⟩) lb).trans CB.out;clear hS';go_simp;(try rfl)) ?_;simp only[puts];refine one_M 8 (by kernel_rfl) ?_;refine wpOp_call (d:=some 24) 8 33 _ _ [.slice a1 nx c1,.slice a2 nx c2] rfl rfl rfl (enters_of Tryz.func33 (by kernel_rfl) rfl) (by rfl) (by rfl) ?_;refine(HST.out _ hHeld).mono ?_;rintro e w2 ⟨rfl,hb2⟩
    refine ret_S (below_then hHeld hb2) (fun hHeld=> ?_);simp only[puts];refine takeM (d:=some 25) 9 rfl rfl hHeld (fun w' hS'=>by clear hS';go_simp;(try rfl)) ?_;simp only[puts];refine doneM (by kernel_rfl) ?_ _;have HBF:=qq (below_then HBE.out hHeld);go_wp2_with fail;go_roundw
    case rel=>exact⟨i+1,by omega,by go_num,HBF⟩
    case measure=>simp[intOf];omega
  · go_wp2_with fail;go_ret;exact⟨rfl,HBE.out⟩
structure Pc where
 par:Int
 op:Int
 nm:PStr
 opt:Bool
def PcsV (w:World) (v:Value) (row:List Pc):Prop:=∃a c,v=.slice a row.length c∧(∀i p,row[i]? =some p→∃b o,a=some ⟨b,o,none⟩∧b<w.heap.size∧
  w.cell? ⟨b,o+i*4,none⟩=some (.int .i64 p.par)∧w.cell? ⟨b,o+i*4+1,none⟩=some (.int .i64 p.op)∧w.cell? ⟨b,o+i*4+2,none⟩=some (.string ⟨p.nm.toArray⟩)∧w.cell? ⟨b,o+i*4+3,none⟩=some (.bool p.opt))
theorem PcsV.below {w w':World} {v:Value} {row:List Pc} (h:PcsV w v row) (hb:Below w.heap.size w w'):PcsV w' v row:=by
 obtain⟨a,c,rfl,h1⟩:=h;refine⟨a,c,rfl,fun i p hp=> ?_⟩;obtain⟨b,o,e1,e2,c0,c1,c2,c3⟩:=h1 i p hp;exact⟨b,o,e1,Nat.lt_of_lt_of_le e2 hb.size,(hb.cell (p:=⟨b,_,none⟩) e2).trans c0,(hb.cell (p:=⟨b,_,none⟩) e2).trans c1,(hb.cell (p:=⟨b,_,none⟩) e2).trans c2,(hb.cell (p:=⟨b,_,none⟩) e2).trans c3⟩
def pBig (row:List Pc):Bool:=decide (row.length<1) || decide (30<row.length) || row.any (fun p=>decide (100<p.nm.length))
theorem big_of (v:Value) (row:List Pc) (w:World) (h:PcsV w v row):Calls Tryz.prog 9 #[v] w (Makes (.bool (pBig row)) w):=by
 have HP:=qq (fun W (hW:Below w.heap.size w W)=>h.below hW);obtain⟨a,c,rfl,h1⟩:=h;clear h1;by_cases hs:row.length<1∨30<row.length
 · have hb:pBig row=true:=by
    unfold pBig;rcases hs with h | h
    · rw[decide_eq_true h];rfl
    · rw[decide_eq_true h];simp
   rw[hb];clear hb HP;generalize row.length=n at*;rcases hs with hs | hs
   · have h1:((n:Nat):Int)<1:=by omega
     clear hs;go_enter Tryz.func9,Tryz.ntmps9;go_wp2_with fail;go_ret;exact⟨rfl,Below.refl _ _⟩
   · have h1:¬((n:Nat):Int)<1:=by omega
     have h2:(30:Int)<(n:Nat):=by omega
     clear hs;go_enter Tryz.func9,Tryz.ntmps9;go_wp2_with fail;go_ret;exact⟨rfl,Below.refl _ _⟩
 · have hb:Hid (pBig row=row.any (fun p=>decide (100<p.nm.length))):=qq (by
     unfold pBig;rw[decide_eq_false (fun h=>hs (.inl h)),decide_eq_false (fun h=>hs (.inr h))];rfl)
   obtain⟨n,hn⟩:∃n,n=row.length:=⟨_,rfl⟩
   have HN:=qq hn;rw[←hn] at hs⊢;have h1:¬((n:Nat):Int)<1:=by omega
   have h2:¬(30:Int)<(n:Nat):=by omega
   clear hs hn;have HRES:Hid (∀w',Below w.heap.size w w'→∀b,pBig row=b→Makes (.bool (pBig row)) w (.returned (.bool b)) w'):=qq (fun w' hb b h=>⟨by rw[h],hb⟩);generalize Makes (.bool (pBig row)) w=R at HRES⊢;go_enter Tryz.func9,Tryz.ntmps9;go_wp2_with fail
   go_loopw [15] (fun cc wr=>∃i:Nat,i≤n∧cc=.int .i64 (i:Int)∧Hid (∀(j:Nat) p,j<i→row[j]? =some p→¬100<p.nm.length)∧Hid (Below w.heap.size w wr)) (fun cc _=>n - (intOf cc).toNat)
   case atStart=>exact⟨0,by omega,by first | rfl | go_num,qq (fun j p h=>by omega),qq (Below.refl _ _)⟩
   case round=>
    obtain⟨i,hi,rfl,HA,HB⟩:=hrel;have hi0:(0:Int)≤(i:Int):=by omega
    by_cases hlt:i<n
    · have hi1:(i:Int)<(n:Int):=by omega
      obtain⟨p,hp⟩:∃p,row[i]? =some p:=⟨_,List.getElem?_eq_getElem (by rw[←HN.out];exact hlt)⟩
      obtain⟨a',c',ev,hc⟩:=HP.out _ HB.out;injection ev with ev1 _ ev2
      subst ev1 ev2;obtain⟨b,o,rfl,hbw,c0,c1,c2,c3⟩:=hc i p hp;obtain⟨pp,po,pn,pt⟩:=p;dsimp only at c0 c1 c2 c3;have hsz:=str_size pn;have HI:=qq hp;clear hc hp;by_cases hl:100<pn.length
      · have hl':(100:Int)<(pn.length:Int):=by omega
        have HY:Hid (pBig row=true):=qq (by
          rw[hb.out,List.any_eq_true];exact⟨_,List.mem_of_getElem? HI.out,by simpa using hl⟩)
        clear hl;generalize pn.length=q at*;go_wp2_with fail
        (try go_ret)
        exact HRES.out _ (bel_alloc HB.out _) true HY.out
      · have hl':¬(100:Int)<(pn.length:Int):=by omega
        have HA2:Hid (∀(j:Nat) p,j<i+1→row[j]? =some p→¬100<p.nm.length):=qq (fun j x hj hx=>by
          rcases Nat.lt_or_ge j i with h | h
          · exact HA.out j x h hx
          · obtain rfl:j=i:=by omega
            rw[HI.out] at hx;injection hx with hx
            subst hx;exact hl)
        clear hl;generalize pn.length=q at*;go_wp2_with fail;go_roundw
        case rel=>exact⟨i+1,by omega,by go_num,HA2,qq (bel_alloc HB.out _)⟩
        case measure=>simp[intOf];omega
    · have HNO:Hid (pBig row=false):=qq (by
        rw[hb.out,List.any_eq_false];intro p hp;obtain⟨j,hj,rfl⟩:=List.getElem_of_mem hp;have:=HA.out j _ (by have:=HN.out;omega) (List.getElem?_eq_getElem hj);simpa using this)
      go_wp2_with fail
      (try go_ret)
      exact HRES.out _ HB.out false HNO.out
theorem pBig_no {row:List Pc} (h:pBig row=false):1≤row.length∧row.length≤30∧∀p∈row,p.nm.length≤100:=by
 unfold pBig at h;simp only[Bool.or_eq_false_iff,decide_eq_false_iff_not,List.any_eq_false,decide_eq_true_eq] at h;exact⟨by omega,by omega,fun p hp=>by have:=h.2 p hp;omega⟩
def parOf (p:Int) (k:Nat):Int:=Go.RowKit.wrap64 ((IntKind.u64.wrap p).tmod (k:Int))
def tK (row:List Pc):Nat→Nat→PF
 | 0,_=> .nil
 | g+1,i=>match row[row.length - (g+1)]? with
  | some p=>if parOf p.par (row.length - (g+1))=(i:Int) then .cons p.op p.nm p.opt (tK row g (row.length - (g+1))) (tK row g i) else tK row g i
  | none=> .nil
def pTree (row:List Pc) (i:Nat):PE:=match row[i]? with | some p=>⟨p.op,p.nm,p.opt,tK row (row.length - (i+1)) i⟩ | none=>⟨0,[],false,.nil⟩
def PF.app:PF→PF→PF
 | .nil,f=>f
 | .cons o n b k r,f=> .cons o n b k (r.app f)
theorem PF.app_nil:∀f:PF,f.app .nil=f
 | .nil=>rfl
 | .cons o n b k r=>by show PF.cons o n b k (r.app .nil)=_;rw[PF.app_nil r]
theorem PF.app_cons:∀(f:PF) (o:Int) (n:PStr) (b:Bool) (k r:PF),f.app (.cons o n b k r)=(f.snoc ⟨o,n,b,k⟩).app r
 | .nil,_,_,_,_,_=>rfl
 | .cons o n b k r,o2,n2,b2,k2,r2=>by show PF.cons o n b k (r.app _)=PF.cons o n b k ((r.snoc _).app r2);rw[PF.app_cons r]
theorem tK_at {row:List Pc} {k i:Nat} {p:Pc} (h:row[k]? =some p):tK row (row.length - k) i=if parOf p.par k=(i:Int) then .cons p.op p.nm p.opt (tK row (row.length - (k+1)) k) (tK row (row.length - (k+1)) i) else tK row (row.length - (k+1)) i:=by
 have hk:=(List.getElem?_eq_some_iff.1 h).1;obtain⟨g,hg⟩:∃g,row.length - k=g+1:=⟨row.length - k - 1,by omega⟩
 have e:row.length - (g+1)=k:=by omega
 have e2:row.length - (k+1)=g:=by omega
 rw[hg,e2]
 conv=>lhs;unfold tK
 rw[e,h]
theorem tK_len (row:List Pc):∀(g i:Nat),(tK row g i).len≤g
 | 0,i=>Nat.le_refl _
 | g+1,i=>by
  have h:=tK_len row g i;unfold tK;split
  · split
    · show(tK row g i).len+1≤g+1;omega
    · omega
  · simp[PF.len]
theorem tK_small (row:List Pc) (hn:∀p∈row,p.nm.length≤100):∀(g i:Nat),g≤30→(tK row g i).small
 | 0,i,_=>True.intro
 | g+1,i,hg=>by
  unfold tK;split
  · rename_i p hp
    split
    · have:=tK_len row g (row.length - (g+1));exact⟨by have:=hn p (List.mem_of_getElem? hp);omega,by omega,tK_small row hn g _ (by omega),tK_small row hn g i (by omega)⟩
    · exact tK_small row hn g i (by omega)
  · exact True.intro
theorem pTree_ok {row:List Pc} (h:pBig row=false) (i:Nat):(pTree row i).nm.length≤100∧(pTree row i).kids.len≤30∧(pTree row i).kids.small:=by
 obtain⟨_,h2,h3⟩:=pBig_no h;unfold pTree;split
 · rename_i p hp
   have:=tK_len row (row.length - (i+1)) i;exact⟨h3 p (List.mem_of_getElem? hp),by dsimp only;omega,tK_small row h3 _ _ (by omega)⟩
 · exact⟨by simp,by simp[PF.len],True.intro⟩
open Go.RowKit
def KTS (S:Nat→Prop) (w:World):PF→Nat→Nat→Prop
 | .nil,_,_=>True
 | .cons op nm opt kids rest, b, o => (w.cell? ⟨b, o, none⟩ = some (.int .i64 op) ∧ w.cell? ⟨b, o + 1, none⟩ = some (encStr nm) ∧ w.cell? ⟨b, o + 2, none⟩ = some (.bool opt) ∧ ∃ a c, w.cell? ⟨b, o + 3, none⟩ = some (.slice a kids.len c) ∧
     (kids≠.nil→∃b2 o2,a=some ⟨b2,o2,none⟩∧S b2∧KTS S w kids b2 o2))∧KTS S w rest b (o+4)
def KCS (S:Nat→Prop) (w:World) (kids:PF) (a:Option Addr):Prop:=kids≠.nil→∃b o,a=some ⟨b,o,none⟩∧S b∧KTS S w kids b o
theorem KTS.keep {S S':Nat→Prop} {w w':World} (hS:∀k,S k→S' k) (he:∀k,S k→w'.heap[k]? =w.heap[k]?):∀(l:PF) (b o:Nat),(l≠.nil→S b)→KTS S w l b o→KTS S' w' l b o
 | .nil,_,_,_,_=>True.intro
 | .cons op nm opt kids rest,b,o,hb,h=>by
  obtain⟨⟨h1,h2,h3,a,c,h4,h5⟩,h6⟩:=h;have hh:=he b (hb (by simp));refine⟨⟨(World.cell?_of_block (w:=w) (a:=⟨b,o,none⟩) hh).trans h1,(World.cell?_of_block (w:=w) (a:=⟨b,o+1,none⟩) hh).trans h2,(World.cell?_of_block (w:=w) (a:=⟨b,o+2,none⟩) hh).trans h3,a,c,(World.cell?_of_block (w:=w) (a:=⟨b,o+3,none⟩) hh).trans h4,fun hn=> ?_⟩,KTS.keep hS he rest b (o+4) (fun _=>hb (by simp)) h6⟩
  obtain⟨b2,o2,e1,e2,e4⟩:=h5 hn;exact⟨b2,o2,e1,hS _ e2,KTS.keep hS he kids b2 o2 (fun _=>e2) e4⟩
theorem KCS.keep {S S':Nat→Prop} {w w':World} {l:PF} {a:Option Addr} (h:KCS S w l a) (hS:∀k,S k→S' k) (he:∀k,S k→w'.heap[k]? =w.heap[k]?):KCS S' w' l a:=fun hn=>by
 obtain⟨b,o,e1,e2,e4⟩:=h hn;exact⟨b,o,e1,hS _ e2,e4.keep hS he l b o (fun _=>e2)⟩
theorem KTS.of {B E:Nat} {w:World}:∀(l:PF) (b o:Nat),KT B E w l b o→KTS (fun k=>B≤k∧k<E) w l b o
 | .nil,_,_,_=>True.intro
 | .cons op nm opt kids rest,b,o,h=>by
  obtain⟨⟨h1,h2,h3,a,c,h4,h5⟩,h6⟩:=h;refine⟨⟨h1,h2,h3,a,c,h4,fun hn=> ?_⟩,KTS.of rest b (o+4) h6⟩;obtain⟨b2,o2,e1,e2,e3,e4⟩:=h5 hn;exact⟨b2,o2,e1,⟨e2,e3⟩,KTS.of kids b2 o2 e4⟩
theorem KTS.kt {B E:Nat} {S:Nat→Prop} {w:World} (hS:∀k,S k→B≤k∧k<E):∀(l:PF) (b o:Nat),KTS S w l b o→KT B E w l b o
 | .nil,_,_,_=>True.intro
 | .cons op nm opt kids rest,b,o,h=>by
  obtain⟨⟨h1,h2,h3,a,c,h4,h5⟩,h6⟩:=h;refine⟨⟨h1,h2,h3,a,c,h4,fun hn=> ?_⟩,KTS.kt hS rest b (o+4) h6⟩;obtain⟨b2,o2,e1,e2,e4⟩:=h5 hn;exact⟨b2,o2,e1,(hS _ e2).1,(hS _ e2).2,KTS.kt hS kids b2 o2 e4⟩
theorem KCS.of {B E:Nat} {w:World} {l:PF} {a:Option Addr} (h:KC B E w l a):KCS (fun k=>B≤k∧k<E) w l a:=fun hn=>by
 obtain⟨b,o,e1,e2,e3,e4⟩:=h hn;exact⟨b,o,e1,⟨e2,e3⟩,KTS.of l b o e4⟩
def KL (S:Nat→Prop) (w:World):PF→List Value→Prop
 | .nil,xs=>xs=[]
 | .cons op nm opt kids rest,xs=>∃a c ys,xs=.int .i64 op::encStr nm:: .bool opt:: .slice a kids.len c::ys∧KCS S w kids a∧KL S w rest ys
theorem KL.len {S:Nat→Prop} {w:World}:∀(l:PF) (xs:List Value),KL S w l xs→xs.length=l.len*4
 | .nil,xs,h=>by
  have h':xs=[]:=h;subst h';rfl
 | .cons op nm opt kids rest,xs,h=>by
  obtain⟨a,c,ys,rfl,_,h2⟩:=h;have:=KL.len rest ys h2;simp only[List.length_cons,this,PF.len];omega
theorem KL.keep {S S':Nat→Prop} {w w':World} (hS:∀k,S k→S' k) (he:∀k,S k→w'.heap[k]? =w.heap[k]?):∀(l:PF) (xs:List Value),KL S w l xs→KL S' w' l xs
 | .nil,xs,h=>h
 | .cons op nm opt kids rest,xs,h=>by
  obtain⟨a,c,ys,rfl,h1,h2⟩:=h;exact⟨a,c,ys,rfl,h1.keep hS he,KL.keep hS he rest ys h2⟩
theorem KL.snoc {S:Nat→Prop} {w:World} {e:PE} {a:Option Addr} {c:Nat} (hk:KCS S w e.kids a):∀(l:PF) (xs:List Value),KL S w l xs→KL S w (l.snoc e) (xs ++ [.int .i64 e.op,encStr e.nm,.bool e.opt,.slice a e.kids.len c])
 | .nil,xs,h=>by
  have h':xs=[]:=h;subst h';exact⟨a,c,[],rfl,hk,rfl⟩
 | .cons op nm opt kids rest,xs,h=>by
  obtain⟨a2,c2,ys,rfl,h1,h2⟩:=h;exact⟨a2,c2,_,rfl,h1,KL.snoc hk rest ys h2⟩
theorem KL.kt {B E:Nat} {S:Nat→Prop} {w:World} (hS:∀k,S k→B≤k∧k<E):∀(l:PF) (xs:List Value) (b o:Nat),KL S w l xs→(∀j u,xs[j]? =some u→w.cell? ⟨b,o+j,none⟩=some u)→KT B E w l b o
 | .nil,xs,b,o,h,hc=>True.intro
 | .cons op nm opt kids rest,xs,b,o,h,hc=>by
  obtain⟨a,c,ys,rfl,h1,h2⟩:=h;refine⟨⟨hc 0 _ rfl,hc 1 _ rfl,hc 2 _ rfl,a,c,hc 3 _ rfl,fun hn=> ?_⟩,KL.kt hS rest ys b (o+4) h2 (fun j u hj=> ?_)⟩
  · obtain⟨b2,o2,e1,e2,e4⟩:=h1 hn;exact⟨b2,o2,e1,(hS _ e2).1,(hS _ e2).2,KTS.kt hS kids b2 o2 e4⟩
  · have:=hc (j+4) u (by simpa using hj);rwa[show o+(j+4)=o+4+j by omega] at this
theorem KL.kc {B E B0:Nat} {S:Nat→Prop} {w:World} {T:TypeId} {l:PF} {xs:List Value} {a:Option Addr} {n c:Nat} (hS:∀k,S k→B≤k∧k<E) (h:KL S w l xs) (hr:w.ownsRow B0 T 4 (.slice a n c) l.len xs) (hB:B≤B0) (hE:w.heap.size≤E):KC B E w l a:=fun hn=>by
 rcases hr.2 with⟨e0,h0⟩ | ⟨g,cap,cur,e0,hg,hgl,_⟩
 · exact absurd (PF.len_zero h0) hn
 · injection e0 with e1
   subst e1;refine⟨g,0,rfl,Nat.le_trans hB hg,Nat.lt_of_lt_of_le (Array.getElem?_eq_some_iff.1 hgl).1 hE,KL.kt hS l xs g 0 h (fun j u hu=> ?_)⟩;have:=hr.cells (g:=g) rfl j u hu;rw[Addr.add_lit,Nat.zero_add] at this;rw[Nat.zero_add];exact this
abbrev exL' (e:PE) (a:Option Addr) (c:Nat):List Value:=[.int .i64 e.op,.string ⟨e.nm.toArray⟩,.bool e.opt,.slice a e.kids.len c]
def KidsIn (B0:Nat) (T:TypeId) (w:World) (acc:PF) (v:Value) (n:Nat):Prop:=
 n=acc.len∧∃xs,w.ownsRow B0 T 4 v n xs∧KL (fun k=>B0≤k∧k<w.heap.size∧some k≠v.ownBlock) w acc xs
theorem KidsIn.nil (B0:Nat) (T:TypeId) (w:World):KidsIn B0 T w .nil (.slice none 0 0) 0:=⟨rfl,[],World.ownsRow_nil _ _ _ _,rfl⟩
theorem KidsIn.keep {B0 n:Nat} {T:TypeId} {w w':World} {acc:PF} {v:Value} (h:KidsIn B0 T w acc v n) (hz:w.heap.size≤w'.heap.size) (he:∀k,B0≤k→k<w.heap.size→w'.heap[k]? =w.heap[k]?):KidsIn B0 T w' acc v n:=by
 obtain⟨hn,xs,h1,h2⟩:=h;exact⟨hn,xs,row_heap h1 (fun k hk=>he k (h1.lt k hk).1 (h1.lt k hk).2),h2.keep (fun k hk=>⟨hk.1,Nat.lt_of_lt_of_le hk.2.1 hz,hk.2.2⟩) (fun k hk=>he k hk.1 hk.2.1)⟩
theorem KidsIn.below {B0 n:Nat} {T:TypeId} {w w':World} {acc:PF} {v:Value} (h:KidsIn B0 T w acc v n) (hb:Below w.heap.size w w'):KidsIn B0 T w' acc v n:=h.keep hb.size (fun k _ hk=>hb.block k hk)
theorem KidsIn.drew {B0 n:Nat} {T:TypeId} {w:World} {acc:PF} {v:Value} (h:KidsIn B0 T w acc v n):KidsIn B0 T w.drew acc v n:=h.below (Below.refl _ _).drew
theorem KidsIn.set {B0 n:Nat} {T:TypeId} {w:World} {acc:PF} {v:Value} (h:KidsIn B0 T w acc v n) {p:Addr} (hp:p.block<B0) (x:Value):KidsIn B0 T (w.setCell p x) acc v n:=
 h.keep (by simp) (fun k hk _=>Below.heap_setCell _ _ _ _ (by omega))
theorem KidsIn.slice {B0 n:Nat} {T:TypeId} {w:World} {acc:PF} {v:Value} (h:KidsIn B0 T w acc v n):∃a c,v=.slice a n c:=by
 obtain⟨_,xs,h1,_⟩:=h;exact row_slice h1
theorem KidsIn.kc {B B0 n c:Nat} {T:TypeId} {w:World} {acc:PF} {a:Option Addr} (h:KidsIn B0 T w acc (.slice a n c) n) (hB:B≤B0):KC B w.heap.size w acc a:=by
 obtain⟨rfl,xs,h1,h2⟩:=h;exact KL.kc (fun k hk=>⟨Nat.le_trans hB hk.1,hk.2.1⟩) h2 h1 hB (Nat.le_refl _)
theorem KidsIn.lt {B0 n:Nat} {T:TypeId} {w:World} {acc:PF} {v:Value} (h:KidsIn B0 T w acc v n) (q:Nat) (hq:v.ownBlock=some q):B0≤q∧q<w.heap.size:=by
 obtain⟨_,xs,h1,_⟩:=h;exact h1.lt q hq
theorem KidsIn.more {B0 B1 n : Nat} {T : TypeId} {w w3 w4 : World} {acc : PF} {v v4 : Value} {e : PE} {a : Option Addr} {c : Nat} {xs : List Value} (hn : n = acc.len) (hrow : w.ownsRow B0 T 4 v n xs) (hkl : KL (fun k => B0 ≤ k ∧ k < w.heap.size ∧ some k ≠ v.ownBlock) w acc xs)
    (hkc:KC B1 w.heap.size w e.kids a) (hB1:B0≤B1) (hvb:∀q,v.ownBlock=some q→q<B1) (h3:w3=w.alloc (.cells (exL' e a c).toArray T)) (hown:w4.ownsRow B0 T 4 v4 (n+1) (xs ++exL' e a c)) (hgrow:w3.grownBy w4 v.ownBlock) (hat:v4.ownBlock=v.ownBlock∨v4.ownBlock=some w3.heap.size):
    KidsIn B0 T w4 (acc.snoc e) v4 (n+1):=by
 have hz3:w3.heap.size=w.heap.size+1:=by rw[h3];simp
 have hz4:w.heap.size+1≤w4.heap.size:=by have:=hgrow.size;omega
 have hch:∀q,q<w.heap.size→some q≠v.ownBlock→w4.heap[q]? =w.heap[q]? :=fun q hq hne=>(hgrow.block q (by omega) hne).trans (by rw[h3];exact((Below.refl w.heap.size w).alloc (Nat.le_refl _) _).block q hq)
 have hS:∀q,(B0≤q∧q<w.heap.size∧some q≠v.ownBlock)→(B0≤q∧q<w4.heap.size∧some q≠v4.ownBlock):=fun q hq=>⟨hq.1,by omega,fun he=>by
   rcases hat with h5 | h5
   · rw[h5] at he;exact hq.2.2 he
   · rw[h5] at he;injection he with he
     have:=hq.2.1;omega⟩
 have hK2:KCS (fun q=>B0≤q∧q<w.heap.size∧some q≠v.ownBlock) w e.kids a:=(KCS.of hkc).keep (fun q hq=>⟨by omega,hq.2,fun he=>by have:=hvb q he.symm;omega⟩) (fun _ _=>rfl);refine⟨by rw[PF.len_snoc,hn],xs ++exL' e a c,hown,?_⟩;exact KL.snoc (hK2.keep hS (fun q hq=>hch q hq.2.1 hq.2.2)) acc xs (hkl.keep hS (fun q hq=>hch q hq.2.1 hq.2.2))
def rHas (c:UInt8):PStr→Option PStr
 | []=>none
 | x::t=>if x=c then some t else none
def rdGo:Nat→Nat→PStr→Option (UInt8×UInt8×PF)→Option (PF×PStr)
 | 0,_,_,_=>none
 | g+1,d,s,none=>
  if 12<d+1 then none else
  match rHas 40 s with
  | some t=>(match rHas 41 t with
    | some u=>(some (PF.nil,u):Option (PF×PStr))
    | none=>rdGo g (d+1) t (some (38,41,.nil))).map (fun(r:PF×PStr)=>(PF.cons 2 [] false r.1 .nil,r.2))
  | none=>
   match rHas 91 s with
   | some t=>(match rHas 93 t with
     | some u=>(some (PF.nil,u):Option (PF×PStr))
     | none=>rdGo g (d+1) t (some (124,93,.nil))).map (fun(r:PF×PStr)=>(PF.cons 3 [] false r.1 .nil,r.2))
   | none=>
    match rHas 63 (s.dropWhile isLet) with
    | some t=>some (.cons 1 (s.takeWhile isLet) true .nil .nil,t)
    | none=>some (.cons 1 (s.takeWhile isLet) false .nil .nil,s.dropWhile isLet)
 | g+1,d,s,some (bt,en,acc)=>
  (rdGo g d s none).bind fun r=>
   match r.1 with
   | .nil=>none
   | .cons o n b k _=>
    match rHas en r.2 with
    | some u=>some (acc.snoc ⟨o,n,b,k⟩,u)
    | none=>(rHas bt r.2).bind fun u=>rdGo g d u (some (bt,en,acc.snoc ⟨o,n,b,k⟩))
end Go.Proofs.YtbepkpjcjpmpmaaGreatDoor
