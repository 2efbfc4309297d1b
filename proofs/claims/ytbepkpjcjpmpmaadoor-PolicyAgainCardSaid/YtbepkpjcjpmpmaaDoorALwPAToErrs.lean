/- LwPA, PcO, Sent, Errs -/
import Derived.Test.YtbepkpjcjpmpmaaDoorAPolYToAgP
import Derived.Deep.Slices
import Derived.ChangeArms
import Derived.Laws.Cover2
import Derived.Deep.Fields
import Derived.ProofKit
import Derived.LaidMore
import Derived.OpenShut
import Derived.Stop.Joined
import Derived.Carry
import Derived.SevenTiedAt
set_option linter.unusedSimpArgs false
set_option linter.unusedVariables false
set_option maxRecDepth 100000
set_option maxHeartbeats 16000000
namespace Go.Proofs.YtbepkpjcjpmpmaaDoor
open Go.RowKit Go.Shelf
theorem law_pagain (v:Value) (row:List Pc) (ea:Int→Addr) (w:World) (hE:Errs ea w) (hV:PcsV w v row):Calls Tryd.prog 3 #[v] w (Makes (.bool true) w):=by
 obtain⟨i0,ei,ez,es,eb⟩:=info_parts infoEx;have HA:=qq (alive29_of ea w hE);have HBIG:=qq (fun W (hW:Below w.heap.size w W)=>big_of v row W (hV.below hW));have HEE:=qq hE;have HVV:=qq (fun W (hW:Below w.heap.size w W)=>hV.below hW);clear hE hV
 cases hb:pBig row with
 | true=>
  rw[hb] at HBIG;clear hb;go_enter Tryd.func3,Tryd.ntmps3;go_wp2_with fail;refine HA.out.mono ?_;rintro e w1 ⟨rfl,hb1⟩;have HB1:=qq hb1;clear hb1;go_wp2_with fail;refine(HBIG.out _ HB1.out).mono ?_;rintro e w2 ⟨rfl,hb2⟩;have HB2:=qq (below_then HB1.out hb2);clear hb2;go_wp2_with fail;go_ret;exact⟨rfl,HB2.out⟩
 | false=>
  rw[hb] at HBIG;obtain⟨hl1,hl30,_⟩:=pBig_no hb;obtain⟨hn1,hn2,hn3⟩:=pTree_ok hb 0;have HTR:=qq (fun W (hW:Below w.heap.size w W)=>tree_go 30 v row 0 W (by omega) (by omega) hl30 (HVV.out W hW));obtain⟨E,hEq⟩:∃E,E=pTree row 0:=⟨_,rfl⟩
  rw[←hEq] at hn1 hn2 hn3 HTR;have HN:=qq (fun(B F:Nat) (a:Option Addr) (c:Nat) W (hW:Below w.heap.size w W) (hk:KC B F W E.kids a) (hf:F≤W.heap.size)=>normal_of E a c B F ea W ⟨by omega,by omega,hn3,hk,hf,HEE.out.below hW⟩);have HAG:=qq (fun l (h:pRight E=true) (h2:pNorm E=some l)=>again_norm h h2);have HOK:=qq (pNormal_ok E)
  have HDEF:Hid (pNormal E=(if pRight E then(match pNorm E with | some l=>(l,0) | none=>([],6)) else([],4):List PAlt×Int)):=qq rfl;generalize pNormal E=r at HN HOK HDEF;have HNUM:Hid ((r.1=[]∧r.2≠0∧1≤r.2∧r.2≤14)∨(r.2=0∧(pRight ⟨3,[],false,alls r.1⟩=decide (1+cntA r.1≤200))∧pNorm ⟨3,[],false,alls r.1⟩=some r.1∧∀a∈r.1,∀s∈a,isNm s=true)):=qq (by
    rw[HDEF.out];by_cases hr:pRight E=true
    · rw[if_pos hr]
      cases hp:pNorm E with
      | none=>exact .inl ⟨rfl,by simp,by simp,by simp⟩
      | some l=>exact .inr ⟨rfl,HAG.out l hr hp⟩
    · rw[if_neg hr];exact .inl ⟨rfl,by simp,by simp,by simp⟩)
  obtain⟨L,n⟩:=r;clear HDEF HAG hb hl1 hl30 HVV;obtain⟨EO,ENM,EOPT,EK⟩:=E;unfold exA at*;dsimp only at*;clear hn1 hn2 hn3 hEq;rcases HNUM.out with⟨rfl,h2,h3,h4⟩ | ⟨rfl,hrt,hnm,hnms⟩
  · have he:errOf ea n=errV (ea n):=if_neg h2;clear HNUM HOK;go_enter Tryd.func3,Tryd.ntmps3;go_wp2_with fail;refine HA.out.mono ?_;rintro e w1 ⟨rfl,hb1⟩;have HB1:=qq hb1;clear hb1 HA;go_wp2_with fail;refine(HBIG.out _ HB1.out).mono ?_;rintro e w2 ⟨rfl,hb2⟩;have HB2:=qq (below_then HB1.out hb2);clear hb2 HBIG HB1;go_wp2_with fail;refine(HTR.out _ HB2.out).mono ?_;rintro e w3 ⟨a,c,rfl,hk3,hb3⟩
    unfold exA;dsimp only at hk3⊢;have HB3:=qq (below_then HB2.out hb3);have HK:=qq hk3;clear hk3 hb3;go_wp2_with fail;refine(HN.out _ _ a c _ HB3.out HK.out (Nat.le_refl _)).mono ?_;rintro e w4 ⟨v4,rfl,hv4,hb4⟩;dsimp only;rw[he];clear he;dsimp only at hv4;obtain⟨a4,c4,rfl⟩:=hv4.row;have HBF:=qq (below_then HB3.out hb4);clear hv4 hb4 HN;go_wp2_with fail;go_ret;exact⟨rfl,HBF.out⟩
  · have HRT:=qq hrt;have HNM:=qq hnm;have he:errOf ea 0=.nilIface:=rfl;have HNS:=qq hnms;clear HNUM hrt hnm hnms;go_enter Tryd.func3,Tryd.ntmps3;go_wp2_with fail;refine HA.out.mono ?_;rintro e w1 ⟨rfl,hb1⟩;have HB1:=qq hb1;clear hb1 HA;go_wp2_with fail;refine(HBIG.out _ HB1.out).mono ?_;rintro e w2 ⟨rfl,hb2⟩;have HB2:=qq (below_then HB1.out hb2);clear hb2 HBIG HB1;go_wp2_with fail
    refine(HTR.out _ HB2.out).mono ?_;rintro e w3 ⟨a,c,rfl,hk3,hb3⟩;unfold exA;dsimp only at hk3⊢;have HB3:=qq (below_then HB2.out hb3);have HK:=qq hk3;clear hk3 hb3;go_wp2_with fail;refine(HN.out _ _ a c _ HB3.out HK.out (Nat.le_refl _)).mono ?_;rintro e w4 ⟨v4,rfl,hv4,hb4⟩;dsimp only;rw[he];clear he;dsimp only at hv4;obtain⟨a4,c4,rfl⟩:=hv4.row;have HBF:=qq (below_then HB3.out hb4)
    have HL4:=qq (fun W (hW:Below w4.heap.size w4 W)=>hv4.below hW);obtain⟨nl,hnl⟩:∃q,q=L.length:=⟨_,rfl⟩
    have HNL:=qq hnl;have hnl64:nl≤64:=by have:=HOK.out.1;omega
    rw[←hnl] at HL4⊢;clear hv4 hb4 HN hnl;go_wp2_with fail
    go_loopw [5,31] (fun nn cc wr=>∃(i q:Nat) (ao:Option Addr) (co:Nat),i≤nl∧q≤15000∧nn=.int .i64 (q:Int)∧cc=.int .i64 (i:Int)∧Hid (q=1+cntA (L.take i))∧Hid (KidsIn (w4.heap.size+1) 32 wr (alls (L.take i)) (.slice ao i co) i)∧Hid (Blk wr w4.heap.size #[.int .i64 3,.string ⟨#[]⟩,.bool false,.slice ao i co])∧Hid (Below w4.heap.size w4 wr)) (fun _ cc _=>nl - (intOf cc).toNat)
    case atStart=>exact⟨0,1,none,0,by omega,by omega,by first | rfl | go_num,by first | rfl | go_num,qq rfl,qq (KidsIn.nil _ _ _),qq (Blk.fresh w4 _ _ _ rfl),qq ((Below.refl _ _).alloc (Nat.le_refl _) _)⟩
    case round=>
     obtain⟨i,q,ao,co,hi,hq,rfl,rfl,HQ,HO,HX,HB⟩:=hrel;have hi0:(0:Int)≤(i:Int):=by omega
     have hwr:=HB.out.size;have hxl:=HX.out.lt;by_cases hlt:i<nl
     · have hi1:(i:Int)<(nl:Int):=by omega
       obtain⟨x,hx⟩:∃x,L[i]? =some x:=⟨_,List.getElem?_eq_getElem (by rw[←HNL.out];exact hlt)⟩
       obtain⟨gx,ax,cx,cap,ex,hxv,hcell,hgl⟩:=alts_at (HL4.out _ HB.out) i x hx;injection ex with ex1 exn ex2
       clear exn;subst ex1 ex2;have hcx:=hcell wr (Below.refl _ _);have hx200:=HOK.out.2 x (List.mem_of_getElem? hx);have HTK:=qq (take_snoc hx);have HXC:=qq (fun W (hW:Below wr.heap.size wr W)=>alt_cell (row_be hxv hW));obtain⟨nx,hnx⟩:∃q,q=x.length:=⟨_,rfl⟩
       have HNX:=qq hnx;rw[←hnx] at hcx hx200 HXC;have HQ2:Hid (q+(1+nx)=1+cntA (L.take (i+1))):=qq (by rw[HTK.out,cntA_snoc,HQ.out,HNX.out];omega);have hq2:q+(1+nx)≤15000:=by
        have h1:=cntA_le (m:=200) (L.take (i+1)) (fun a ha=>HOK.out.2 a (List.mem_of_mem_take ha));have h2:=HQ2.out;rw[List.length_take] at h1;omega
       clear hcell hxv hnx hx hlt;obtain⟨W,hW⟩:∃W,W=wr:=⟨_,rfl⟩
       have HW:=qq hW;rw[←hW] at hcx HXC HO HX HB hwr hxl hgl⊢;clear hW HW;go_wp2_with fail;go_loopw [43] (fun cc wr=>∃(j:Nat) (a9:Option Addr) (c9:Nat),j≤nx∧cc=.int .i64 (j:Int)∧Hid (KidsIn (W.heap.size+1) 32 wr (leafs (x.take j)) (.slice a9 j c9) j)∧Hid (Blk wr W.heap.size #[.int .i64 2,.string ⟨#[]⟩,.bool false,.slice a9 j c9])∧Hid (Below W.heap.size W wr)) (fun cc _=>nx - (intOf cc).toNat)
       case atStart=>exact⟨0,none,0,by omega,by first | rfl | go_num,qq (KidsIn.nil _ _ _),qq (Blk.fresh W _ _ _ rfl),qq ((Below.refl _ _).alloc (Nat.le_refl _) _)⟩
       case round=>
        obtain⟨j,a9,c9,hj,rfl,HO9,HX9,HB9⟩:=hrel;have hj0:(0:Int)≤(j:Int):=by omega
        have hz9:=HB9.out.size;have hx9l:=HX9.out.lt;by_cases hjl:j<nx
        · have hj1:(j:Int)<(nx:Int):=by omega
          obtain⟨s,hs⟩:∃s,x[j]? =some s:=⟨_,List.getElem?_eq_getElem (by rw[←HNX.out];exact hjl)⟩
          obtain⟨_,_,ev,hcs⟩:=HXC.out _ HB9.out;injection ev with ev1 evn ev2
          clear evn;subst ev1 ev2;obtain⟨gs,rfl,cS,lS,kS⟩:=hcs j s hs;have HTS:Hid (leafs (x.take (j+1))=(leafs (x.take j)).snoc ⟨1,s,false,.nil⟩):=qq (by rw[take_snoc hs,leafs_snoc]);obtain⟨hacl,xs,hrow,hkl⟩:=HO9.out;have hba:Below wr.heap.size wr (wr.alloc (.cells (exL' ⟨1,s,false,.nil⟩ none 0).toArray 32)):=(Below.refl _ _).alloc (Nat.le_refl _) _;have HROW:=qq (row_be hrow hba)
          have HKL:=qq hkl;have HACL:=qq hacl;have HR0:=qq hrow;have HLIT:Hid ((wr.alloc (.cells (exL' ⟨1,s,false,.nil⟩ none 0).toArray 32)).ownsRow wr.heap.size 32 4 (.slice (some ⟨wr.heap.size,0,none⟩) 1 1) 1 (exL' ⟨1,s,false,.nil⟩ none 0)):=qq (lit_row4 _ _ _ _ _ _);obtain⟨l9,q9,f9⟩:=HX9.out;clear hcs hs hacl hrow hkl hba
          go_wp2_with (at_builtin;refine wpList_append_rows rfl (.tmp 48) (.tmp 51) 30 rfl _ 32 i0 (.agg #[.int .i64 0,.string ⟨#[]⟩,.bool false,.slice none 0 0]) 4 56 Tryd.underlying30 ei ez es eb rfl (by decide) _ j _ rfl HROW.out _ _ _ _ rfl HLIT.out ?oq3 ?aq3 ?bq3 ?cq3 ?_)
          (try(case oq3=>intro u hu;simp at hu;rcases hu with rfl | rfl | rfl | rfl<;>rfl))
          (try(case aq3=>unfold maxLen;omega))
          (try(case bq3=>omega))
          (try(case cq3=>(try simp);omega))
          intro vw5 w5 hown hgrow hat;have hHK:=KidsIn.more (B1:=wr.heap.size) (a:=none) (c:=0) HACL.out HR0.out HKL.out KC.nil (by omega) (fun q hq=>(HR0.out.lt q hq).2) rfl hown hgrow (by first | exact hat | simpa using hat);have HX5:=qq (Blk.same (HX9.out.alloc _) hgrow.size (hgrow.block W.heap.size (by simp;omega) (fun e=>by have:=(HR0.out.lt _ e.symm).1;omega)))
          have HB5:=qq ((bel_alloc HB9.out (.cells (exL' ⟨1,s,false,.nil⟩ none 0).toArray 32)).grown hgrow (by have:=HB9.out.size;simp;omega) (fun q hq=>by have:=(HR0.out.lt q hq).1;omega));have hz5:=HB5.out.size;obtain⟨a5,c5,rfl⟩:=hHK.slice;rw[←HTS.out] at hHK;have HK5:=qq hHK;clear hown hgrow hat hHK HROW HKL HLIT l9 q9 f9 cS HACL HR0;obtain⟨l9,q9,f9⟩:=HX5.out;go_wp2_with fail
          have HXF:Hid (Blk (w5.setCell ⟨W.heap.size,3,none⟩ (.slice a5 (j+1) c5)) W.heap.size #[.int .i64 2,.string ⟨#[]⟩,.bool false,.slice a5 (j+1) c5]):=qq (by
            have:=HX5.out.set' 3 (by simp) (.slice a5 (j+1) c5);simpa using this)
          have HKF:=qq (HK5.out.set (p:=⟨W.heap.size,3,none⟩) (by dsimp only;omega) (.slice a5 (j+1) c5));have HBFF:=qq (bel_set HB5.out (p:=⟨W.heap.size,3,none⟩) (Nat.le_refl _) (.slice a5 (j+1) c5));go_roundw
          case rel=>exact⟨j+1,a5,c5,by omega,by go_num,HKF,HXF,HBFF⟩
          case measure=>simp[intOf];omega
        · obtain rfl:nx=j:=by omega
          have HXL:Hid (x.take nx=x):=qq (by rw[HNX.out,List.take_length]);have HO8:=qq (HO9.out.kc (Nat.le_succ _));rw[HXL.out] at HO8;have HOW:=qq (HO.out.below HB9.out);have HXW:=qq (HX.out.below HB9.out);have HB49:=qq (below_then HB.out HB9.out);have HTS:Hid (alls (L.take (i+1))=(alls (L.take i)).snoc ⟨2,[],false,leafs x⟩):=qq (by rw[HTK.out,alls_snoc])
          have hlx:(leafs x).len=nx:=by rw[leafs_len];exact HNX.out.symm
          obtain⟨hacl,xs,hrow,hkl⟩:=HOW.out;have HLX:=qq hlx;have hba:Below wr.heap.size wr (wr.alloc (.cells #[.int .i64 2,.string ⟨#[]⟩,.bool false,.slice a9 nx c9] 32)):=(Below.refl _ _).alloc (Nat.le_refl _) _;have HROW:=qq (row_be hrow hba);have HKL:=qq hkl;have HACL:=qq hacl;have HR0:=qq hrow
          have HLIT:Hid ((wr.alloc (.cells #[.int .i64 2,.string ⟨#[]⟩,.bool false,.slice a9 nx c9] 32)).ownsRow wr.heap.size 32 4 (.slice (some ⟨wr.heap.size,0,none⟩) 1 1) 1 [.int .i64 2,.string ⟨#[]⟩,.bool false,.slice a9 nx c9]):=qq (lit_row4 _ _ _ _ _ _);obtain⟨l9,q9,f9⟩:=HX9.out;obtain⟨l6,q6,f6⟩:=HXW.out;clear hacl hrow hkl hba hlx
          go_wp2_with (at_builtin;refine wpList_append_rows rfl (.tmp 56) (.tmp 58) 30 rfl _ 32 i0 (.agg #[.int .i64 0,.string ⟨#[]⟩,.bool false,.slice none 0 0]) 4 56 Tryd.underlying30 ei ez es eb rfl (by decide) _ i _ rfl HROW.out _ _ _ _ rfl HLIT.out ?oq4 ?aq4 ?bq4 ?cq4 ?_)
          (try(case oq4=>intro u hu;simp at hu;rcases hu with rfl | rfl | rfl | rfl<;>rfl))
          (try(case aq4=>unfold maxLen;omega))
          (try(case bq4=>omega))
          (try(case cq4=>(try simp);omega))
          intro vw5 w5 hown hgrow hat;have HEXL:Hid (exL' ⟨2,[],false,leafs x⟩ a9 c9=[.int .i64 2,.string ⟨#[]⟩,.bool false,.slice a9 nx c9]):=qq (by unfold exL';rw[HLX.out])
          have hHK:=KidsIn.more (e:=⟨2,[],false,leafs x⟩) (B1:=W.heap.size) (a:=a9) (c:=c9) HACL.out HR0.out HKL.out (HO8.out) (by omega) (fun q hq=>by have:=(HO.out.lt q hq).2;omega) (by rw[HEXL.out]) (by rw[HEXL.out];exact hown) hgrow (by first | exact hat | simpa using hat)
          have HX5:=qq (Blk.same (HXW.out.alloc _) hgrow.size (hgrow.block w4.heap.size (by simp;omega) (fun e=>by have:=(HR0.out.lt _ e.symm).1;omega)));have HB5:=qq ((bel_alloc HB49.out (.cells #[.int .i64 2,.string ⟨#[]⟩,.bool false,.slice a9 nx c9] 32)).grown hgrow (by have:=HB49.out.size;simp;omega) (fun q hq=>by have:=(HR0.out.lt q hq).1;omega));have hz5:=HB5.out.size
          obtain⟨a5,c5,rfl⟩:=hHK.slice;rw[←HTS.out] at hHK;have HK5:=qq hHK;clear hown hgrow hat hHK HROW HKL HLIT l9 q9 f9 l6 q6 f6 HACL HR0;obtain⟨l6,q6,f6⟩:=HX5.out;go_wp2_with fail;have HXF:Hid (Blk (w5.setCell ⟨w4.heap.size,3,none⟩ (.slice a5 (i+1) c5)) w4.heap.size #[.int .i64 3,.string ⟨#[]⟩,.bool false,.slice a5 (i+1) c5]):=qq (by
            have:=HX5.out.set' 3 (by simp) (.slice a5 (i+1) c5);simpa using this)
          have HKF:=qq (HK5.out.set (p:=⟨w4.heap.size,3,none⟩) (by dsimp only;omega) (.slice a5 (i+1) c5));have HBFF:=qq (bel_set HB5.out (p:=⟨w4.heap.size,3,none⟩) (Nat.le_refl _) (.slice a5 (i+1) c5));have e1:(q:Int)+(1+(nx:Int))=((q+(1+nx):Nat):Int):=by omega
          go_roundw
          case rel=>exact⟨i+1,q+(1+nx),a5,c5,by omega,hq2,by first | rfl | go_num,by go_num,HQ2,HKF,HXF,HBFF⟩
          case measure=>simp[intOf];omega
     · obtain rfl:nl=i:=by omega
       have HLL:Hid (L.take nl=L):=qq (by rw[HNL.out,List.take_length]);rw[HLL.out] at HQ HO;have hkc:=HO.out.kc (B:=w.heap.size) (by have:=HBF.out.size;omega);have hal:(alls L).len=nl:=by rw[alls_len];exact HNL.out.symm
       have HSM:Hid (alls L).small:=qq (alls_small L (fun a ha=>⟨HOK.out.2 a ha,HNS.out a ha⟩));have HBW:=qq (below_then HBF.out HB.out);have HN2:=qq (normal_of ⟨3,[],false,alls L⟩ ao co w.heap.size wr.heap.size ea wr ⟨by simp,by dsimp only;omega,HSM.out,hkc,Nat.le_refl _,HEE.out.below HBW.out⟩);have HAL:=qq hal;unfold exA at HN2;dsimp only at HN2;rw[HAL.out] at HN2
       have HPN:Hid (pNormal ⟨3,[],false,alls L⟩=if q≤200 then(L,0) else([],4)):=qq (by
         unfold pNormal;rw[HRT.out,←HQ.out,HNM.out];by_cases h:q≤200
         · rw[if_pos h,decide_eq_true h];rfl
         · rw[if_neg h,decide_eq_false h];rfl)
       have HSA:=qq (fun Ba Bb va vb W (ha:AltsV 34 Ba W va L) (hb:AltsV 34 Bb W vb L)=>same29_yes Ba Bb va vb L W ha hb (by have:=HOK.out.1;omega) (fun a ha=>by have:=HOK.out.2 a ha;omega));obtain⟨l6,q6,f6⟩:=HX.out;clear hkc hal;by_cases h200:q≤200
       · have h2:¬(200:Int)<(q:Int):=by omega
         have HP2:Hid (pNormal ⟨3,[],false,alls L⟩=(L,0)):=qq (by rw[HPN.out,if_pos h200]);rw[HP2.out] at HN2;have he0:errOf ea 0=.nilIface:=rfl;go_wp2_with fail;refine HN2.out.mono ?_;rintro e w6 ⟨v6,rfl,hv6,hb6⟩;obtain⟨a6,c6,rfl⟩:=hv6.row;have HB6:=qq (below_then HB.out hb6);have HV6:=qq hv6;dsimp only at*;rw[he0];rw[←HNL.out] at HV6⊢;clear hv6 hb6 q6 f6 he0;go_wp2_with fail
         refine(HSA.out _ _ _ _ _ (HL4.out _ HB6.out) HV6.out).mono ?_;rintro e w7 ⟨rfl,hb7⟩;have HB7:=qq (below_then HBF.out (below_then HB6.out hb7));clear hb7;go_wp2_with fail;go_ret;exact⟨ret_bool (by simp),HB7.out⟩
       · have h2:(200:Int)<(q:Int):=by omega
         have HP2:Hid (pNormal ⟨3,[],false,alls L⟩=([],4)):=qq (by rw[HPN.out,if_neg h200]);rw[HP2.out] at HN2;have he0:errOf ea 4=errV (ea 4):=rfl;have HN4:=qq (fun W (hW:Below w.heap.size w W)=>num_some 4 (by omega) ea W (HEE.out.below hW));go_wp2_with fail;refine HN2.out.mono ?_;rintro e w6 ⟨v6,rfl,hv6,hb6⟩;obtain⟨a6,c6,rfl⟩:=hv6.row;have HB6:=qq (below_then HBW.out hb6);dsimp only at*;rw[he0]
         clear hv6 hb6 q6 f6 he0;go_wp2_with fail;refine(HN4.out _ HB6.out).mono ?_;rintro e w7 ⟨rfl,hb7⟩;have HB7:=qq (below_then HB6.out hb7);clear hb7;go_wp2_with fail;go_ret;exact⟨ret_bool (by simp),HB7.out⟩
open Go.RowKit Go.Deep Go.ChangeShapes Go.WideShapes Go.ChangeAt Go.WideMaps Go.WideElems
theorem pc_list_of {α:Type} {C:Nat→α→Prop}:∀n,(∀i,i<n→∃o,C i o)→∃l:List α,l.length=n∧∀i (h:i<l.length),C i l[i]
 | 0,_=>⟨[],rfl,fun i h=>absurd h (by simp)⟩
 | n+1,h=>by
  obtain⟨l,hl,hc⟩:=pc_list_of n (fun i hi=>h i (by omega));obtain⟨o,ho⟩:=h n (by omega);refine⟨l ++ [o],by simp[hl],fun i hi=> ?_⟩;by_cases hlt:i<l.length
  · rw[List.getElem_append_left hlt];exact hc i hlt
  · have:i=n:=by simp at hi;omega
    subst this;rw[List.getElem_append_right (by omega)];simpa[hl] using ho
theorem open_pcs {H:Type} {enc:TypeId×Value→H} {W:World} {a0:Option Addr} {len cap:Nat} {d:DataW H} {p:List MemPlace} {sp:Nat→Bool} (h:DataW.Trod enc Tryd.prog W 0 sp true 22 (.slice a0 len cap) d p):∃row,PcsV W (.slice a0 len cap) row:=by
 obtain⟨fuel,hf⟩:=h;rcases open_slice Tryd.underlying22 hf with⟨hcs,hx⟩ | ⟨a,len',cap',m,n,D,Pl,hcs,hb,hl,hm,hmm,hx,hall⟩
 · simp[Value.cells] at hcs;obtain⟨rfl,rfl,rfl⟩:=hcs;exact⟨[],none,0,rfl,fun i p h=>by simp at h⟩
 · simp[Value.cells] at hcs;obtain⟨rfl,rfl,rfl⟩:=hcs;have hlm:len≤m:=by rw[hmm];split<;>omega
   have each:∀i,i<len→∃o:Pc,W.cell? (a.add (i*4))=some (.int .i64 o.par)∧W.cell? (a.add (i*4+1))=some (.int .i64 o.op)∧W.cell? (a.add (i*4+2))=some (.string ⟨o.nm.toArray⟩)∧W.cell? (a.add (i*4+3))=some (.bool o.opt):=by
    intro i hi;obtain⟨cs',h1,h2⟩:=hall i (by omega);rw[show Tryd.prog.cellsOf 40=4 by kernel_rfl] at h1;obtain⟨_,hlen,hcell⟩:=World.cells?_some h1;obtain⟨xs,k,hk,hxy,_,hxl,hfs⟩:=DataW.trod_struct Tryd.underlying40 h2
    match xs,hxl,cs',hlen with
    | [y0,y1,y2,y3],_,[v0,v1,v2,v3],_=>
     have g0:=hfs 0 _ rfl;have g1:=hfs 1 _ rfl;have g2:=hfs 2 _ rfl;have g3:=hfs 3 _ rfl;simp[show Tryd.prog.cellsOf 3=1 by kernel_rfl,show Tryd.prog.cellsOf 9=1 by kernel_rfl,show Tryd.prog.cellsOf 4=1 by kernel_rfl] at g0 g1 g2 g3;obtain⟨n0,e0,_⟩:=DataW.trod_int Tryd.underlying3 g0;obtain⟨n1,e1,_⟩:=DataW.trod_int Tryd.underlying3 g1;obtain⟨n2,e2,_⟩:=DataW.trod_string Tryd.underlying9 g2
     obtain⟨n3,e3,_⟩:=DataW.trod_bool Tryd.underlying4 g3;simp only[List.cons.injEq,and_true] at e0;simp only[List.cons.injEq,and_true] at e1;simp only[List.cons.injEq,and_true] at e2;simp only[List.cons.injEq,and_true] at e3;subst e0 e1 e2 e3;have c0:=hcell 0 (by omega);have c1:=hcell 1 (by omega);have c2:=hcell 2 (by omega);have c3:=hcell 3 (by omega);rw[add_add] at c0 c1 c2 c3
     exact⟨⟨n0,n1,n2.data.toList,n3⟩,by simpa using c0,by simpa using c1,by simpa using c2,by simpa using c3⟩
   obtain⟨es,hlen,hc⟩:=pc_list_of len each;subst hlen;rcases Nat.eq_zero_or_pos es.length with h0 | hp
   · exact⟨es,some a,cap,rfl,fun j p h=>by have:=(List.getElem?_eq_some_iff.1 h).1;omega⟩
   · have hs0:a.spot=none:=by simpa[Addr.add] using World.cell?_spot (hc 0 hp).1
     obtain⟨b,off,spot⟩:=a;have hsp:spot=none:=hs0;subst hsp;have hlt:b<W.heap.size:=by
      have:=(hc 0 hp).1;simp only[Addr.add_lit] at this;exact lt_of_cell this
     refine⟨es,some ⟨b,off,none⟩,cap,rfl,fun j p hj=>⟨b,off,rfl,hlt,?_⟩⟩;obtain⟨hj1,hj2⟩:=List.getElem?_eq_some_iff.1 hj;obtain⟨c0,c1,c2,c3⟩:=hc j hj1;rw[hj2] at c0 c1 c2 c3;simp only[Addr.add_lit,←Nat.add_assoc] at c0 c1 c2 c3;exact⟨c0,c1,c2,c3⟩
open Go.ChangeShapes Go.WideShapes Go.ChangeAt Go.WideMaps Go.WideElems Go.RowKit
theorem Tryd.own:ownKnob Tryd.prog.godebug=none:=by kernel_rfl
theorem Tryd.laidOut:laidOutB Tryd.prog=true:=by kernel_rfl
theorem starE : "*" ++ "errors.errorString" = "*errors.errorString" := by decide
theorem rowE (u : TypeId) (h : Tryd.prog.typeName? 3 u = some "*errors.errorString") : u = 128 :=
 typeName_ptr_named (nm := "errors.errorString") (by rw [starE]; kernel_rfl) (by kernel_rfl) (by decide) u (by rw [starE]; exact h)
theorem cellsE:Tryd.prog.cellsOf 152=1:=by kernel_rfl
theorem cellsS:Tryd.prog.cellsOf 9=1:=by kernel_rfl
structure LaidE where
 num:Int
 name:String
 g:Nat
 text:List UInt8
def LaidE.datum (x : LaidE) : String × DataW Unit := (x.name, .iface "*errors.errorString" (.ptr (.agg [.lit (.string x.text)])))
def LaidE.ok (x:LaidE):Prop:=Tryd.prog.globalNamed x.name=some x.g∧(Tryd.prog.globals[x.g]?).map (·.type)=some 27
theorem sentinels {W : World} : ∀ (L : List LaidE) (ps : List MemPlace), (L.map (·.num)).Nodup → (∀ x ∈ L, x.ok) → DataW.LaidVars Tryd.prog W (L.map LaidE.datum) ps → ps.Nodup →
    (∀b off,MemPlace.cell b off∈ps→(∃c t,W.heap[b]? =some (.cells c t (0,0)))∧∀u v,W.cell? ⟨b,off,none⟩=some (.iface u v)→Value.okWide Tryd.prog W .any 0 u v)→
    ∃ea:Int→Addr,(∀x∈L,ErrIs W x.g (ea x.num)∧MemPlace.cell (ea x.num).block (ea x.num).off∈ps)∧(∀x∈L,∀y∈L,ea x.num=ea y.num→x.num=y.num):=by
 intro L
 induction L with
 | nil=>intro ps _ _ _ _ _;exact⟨fun _=>⟨0,0,none⟩,fun x hx=>by simp at hx,fun x hx=>by simp at hx⟩
 | cons x L ih=>
  intro ps hnum hok h hnd hrows;obtain⟨g0,t0,cs0,f0,p0,q0,hg0,ht0,hv0,hd0,hrest,e0⟩:=h;have hx:=hok x (by simp);obtain rfl:=Option.some.inj (hx.1.symm.trans hg0);obtain rfl:=Option.some.inj (hx.2.symm.trans ht0);subst e0;obtain⟨l0⟩:=cs0;have ok0:∀u v,l0=[.iface u v]→Value.okWide Tryd.prog W .any 0 u v:=fun u v e=>by
   subst e;exact(hrows x.g 0 (by simp[MemPlace.row])).2 u v (by simpa using World.var?_cell hg0 hv0 0)
  obtain⟨a0,s0,rfl,hc0,hs0,hz0,rfl⟩:=errorString_of_trod Tryd.underlying27 rowE Tryd.underlying128 Tryd.underlying152 rfl rfl Tryd.underlying9 cellsE cellsS hd0 ok0;have hn2:=List.nodup_append.1 hnd;obtain⟨ea,h1,h2⟩:=ih q0 (by simpa using(List.nodup_cons.1 hnum).2) (fun y hy=>hok y (by simp[hy])) hrest hn2.2.1 (fun b off hb=>hrows b off (by simp[hb]))
  have hne:∀y∈L,y.num≠x.num:=fun y hy he=>(List.nodup_cons.1 hnum).1 (by
    have:=List.mem_map_of_mem (f:=LaidE.num) hy;rw[he] at this;exact this)
  have hin:MemPlace.cell a0.block a0.off∈MemPlace.row ⟨x.g,0,none⟩ #[Value.iface 128 (.pointer (some a0))].size ++MemPlace.row a0 1:=by simp[MemPlace.row]
  have hcx:ErrIs W x.g a0:=by
   have:=World.var?_cell hg0 hv0 0;simpa[ErrIs] using this
  refine⟨fun m=>if m=x.num then a0 else ea m,fun y hy=> ?_,fun y hy z hz he=> ?_⟩
  · rcases List.mem_cons.1 hy with e | hy'
    · subst e;simp only[if_true];exact⟨hcx,List.mem_append_left _ hin⟩
    · simp only[if_neg (hne y hy')];exact⟨(h1 y hy').1,List.mem_append_right _ (h1 y hy').2⟩
  · rcases List.mem_cons.1 hy with e | hy'<;>rcases List.mem_cons.1 hz with e' | hz'
    · rw[e,e']
    · simp only[e,if_true,if_neg (hne z hz')] at he;have hz2:=(h1 z hz').2;rw[←he] at hz2;exact absurd rfl (hn2.2.2 _ hin _ hz2)
    · simp only[e',if_true,if_neg (hne y hy')] at he;have hy2:=(h1 y hy').2;rw[he] at hy2;exact absurd rfl (hn2.2.2 _ hin _ hy2)
    · simp only[if_neg (hne y hy'),if_neg (hne z hz')] at he;exact h2 y hy' z hz' he
section frame
variable {H:Type} {enc:TypeId×Value→H}
theorem trodAll_below {W W' : World} (hb : Below W.heap.size W W') : ∀ (ts : List TypeId) (vs : List Value) (ds : List (DataW H)) (ps : List MemPlace), (∀ t ∈ ts, Tryd.prog.readableRec t = true ∧ t < Tryd.prog.types.size) →
    DataW.TrodAll enc Tryd.prog W 0 (fun _=>true) true ts vs ds ps→(∀x∈ps,x.block<W.heap.size)→DataW.TrodAll enc Tryd.prog W' 0 (fun b=>decide (b<W.heap.size)) true ts vs ds ps:=by
 intro ts
 induction ts with
 | nil=>
  intro vs ds ps _ h _;obtain⟨rfl,rfl,rfl⟩:=trodAll_nil h;exact trodAll_mk0
 | cons t ts ih=>
  intro vs ds ps hts h hlt;obtain⟨v,vs',d,ds',p,q,rfl,rfl,rfl,hd,hrest⟩:=trodAll_cons h;have h1:=Below.trod Tryd.laidOut (hts t (by simp)).1 (hts t (by simp)).2 hd hb (fun x hx=>hlt x (by simp[hx]));exact trodAll_cons_mk h1 (ih vs' ds' q (fun u hu=>hts u (by simp[hu])) hrest (fun x hx=>hlt x (by simp[hx])))
theorem trodAll_len {W:World} {base:Nat} {sp:Nat→Bool} {held:Bool}:∀{ts:List TypeId} {vs:List Value} {ds:List (DataW H)} {ps:List MemPlace},DataW.TrodAll enc Tryd.prog W base sp held ts vs ds ps→ds.length=ts.length:=by
 intro ts
 induction ts with
 | nil=>
  intro vs ds ps h;obtain⟨rfl,rfl,rfl⟩:=trodAll_nil h;rfl
 | cons t ts ih=>
  intro vs ds ps h;obtain⟨v,vs',d,ds',p,q,rfl,rfl,rfl,hd,hrest⟩:=trodAll_cons h;simp[ih hrest]
theorem frame_post {fn : Func} {s : ChangeSpec} {W W' : World} {args : Array Value} {ds gs : List (DataW H)} {before : List MemPlace}
    (hts:∀t∈fn.params.toList,Tryd.prog.readableRec t=true∧t<Tryd.prog.types.size) (hres:fn.resultTypes= #[4]) (hvars:s.vars=[])
    (hspec:∀ds:List (DataW H),ds.length=fn.params.toList.length→(s.fn H ds).results=[.lit (.bool true)]∧(s.fn H ds).args=ds∧(s.fn H ds).vars=[])
    (hW:DataW.Whole enc Tryd.prog fn.params.toList s.vars false W args.toList ds gs before) (hb:Below W.heap.size W W'):
    s.post enc Tryd.prog fn false true false false W args (.bool true) W':=by
 have hW':=hW;have hlt:=hW.lt;obtain⟨p,q,hA,hV,rfl,hfz,hnd⟩:=hW;rw[hvars] at hV;obtain⟨rfl,rfl⟩:gs=[]∧q=[]:=by
  cases gs with
  | nil=>exact⟨rfl,hV⟩
  | cons g r=>exact absurd hV (by intro h;cases h)
 have hlen:ds.length=fn.params.toList.length:=trodAll_len hA;obtain⟨e1,e2,e3⟩:=hspec ds hlen;refine⟨ds,[],p ++ [],[],p,[],hW',?_,?_,?_,hb.frame _,fun h=>by cases h⟩
 · rw[List.append_nil,e1,hres];exact trodAll_mk1 (shut_bool Tryd.underlying4 true)
 · rw[List.append_nil,e2];exact trodAll_below hb _ _ _ _ hts hA (fun x hx=>hlt x (by simp[hx]))
 · rw[List.append_nil,e3,hvars];rfl
end frame
def err1 : LaidE := ⟨1, "liaison/api.ErrRange", 1, [108, 105, 97, 105, 115, 111, 110, 58, 32, 114, 97, 110, 103, 101]⟩
theorem ok_err1:err1.ok:=⟨by kernel_rfl,by kernel_rfl⟩
def err2 : LaidE := ⟨2, "liaison/api.ErrShort", 2, [108, 105, 97, 105, 115, 111, 110, 58, 32, 115, 104, 111, 114, 116]⟩
theorem ok_err2:err2.ok:=⟨by kernel_rfl,by kernel_rfl⟩
def err3 : LaidE := ⟨3, "liaison/api.ErrLong", 3, [108, 105, 97, 105, 115, 111, 110, 58, 32, 108, 111, 110, 103]⟩
theorem ok_err3:err3.ok:=⟨by kernel_rfl,by kernel_rfl⟩
def err4 : LaidE := ⟨4, "liaison/api.ErrForm", 0, [108, 105, 97, 105, 115, 111, 110, 58, 32, 102, 111, 114, 109]⟩
theorem ok_err4:err4.ok:=⟨by kernel_rfl,by kernel_rfl⟩
def err5 : LaidE := ⟨5, "liaison/api.ErrCheck", 4, [108, 105, 97, 105, 115, 111, 110, 58, 32, 99, 104, 101, 99, 107]⟩
theorem ok_err5:err5.ok:=⟨by kernel_rfl,by kernel_rfl⟩
def err6 : LaidE := ⟨6, "liaison/api.ErrFull", 5, [108, 105, 97, 105, 115, 111, 110, 58, 32, 102, 117, 108, 108]⟩
theorem ok_err6:err6.ok:=⟨by kernel_rfl,by kernel_rfl⟩
def err7 : LaidE := ⟨7, "liaison/api.ErrPower", 6, [108, 105, 97, 105, 115, 111, 110, 58, 32, 112, 111, 119, 101, 114]⟩
theorem ok_err7:err7.ok:=⟨by kernel_rfl,by kernel_rfl⟩
def err8 : LaidE := ⟨8, "liaison/api.ErrNone", 7, [108, 105, 97, 105, 115, 111, 110, 58, 32, 110, 111, 110, 101]⟩
theorem ok_err8:err8.ok:=⟨by kernel_rfl,by kernel_rfl⟩
def err9 : LaidE := ⟨9, "liaison/api.ErrState", 8, [108, 105, 97, 105, 115, 111, 110, 58, 32, 115, 116, 97, 116, 101]⟩
theorem ok_err9:err9.ok:=⟨by kernel_rfl,by kernel_rfl⟩
def err10 : LaidE := ⟨10, "liaison/api.ErrTwice", 9, [108, 105, 97, 105, 115, 111, 110, 58, 32, 116, 119, 105, 99, 101]⟩
theorem ok_err10:err10.ok:=⟨by kernel_rfl,by kernel_rfl⟩
def err11 : LaidE := ⟨11, "liaison/api.ErrDepth", 10, [108, 105, 97, 105, 115, 111, 110, 58, 32, 100, 101, 112, 116, 104]⟩
theorem ok_err11:err11.ok:=⟨by kernel_rfl,by kernel_rfl⟩
def err12 : LaidE := ⟨12, "liaison/api.ErrExpired", 11, [108, 105, 97, 105, 115, 111, 110, 58, 32, 101, 120, 112, 105, 114, 101, 100]⟩
theorem ok_err12:err12.ok:=⟨by kernel_rfl,by kernel_rfl⟩
def err13 : LaidE := ⟨13, "liaison/api.ErrPanic", 12, [108, 105, 97, 105, 115, 111, 110, 58, 32, 112, 97, 110, 105, 99]⟩
theorem ok_err13:err13.ok:=⟨by kernel_rfl,by kernel_rfl⟩
def err14 : LaidE := ⟨14, "liaison/api.ErrProtocol", 13, [108, 105, 97, 105, 115, 111, 110, 58, 32, 112, 114, 111, 116, 111, 99, 111, 108]⟩
theorem ok_err14:err14.ok:=⟨by kernel_rfl,by kernel_rfl⟩
def errs14:List LaidE:=[err1,err2,err3,err4,err5,err6,err7,err8,err9,err10,err11,err12,err13,err14]
theorem num14 (i:Int) (h1:1≤i) (h2:i≤14):∃x∈errs14,x.num=i:=by
 obtain⟨n,rfl⟩:=nat14 ⟨h1,h2⟩;have h0:n≠0:=fun h=>by rw[h] at h1;exact absurd h1 (by decide)
 revert n;decide
theorem ok14:∀x∈errs14,x.ok:=by
 intro x hx;simp only[errs14,List.mem_cons,List.not_mem_nil,or_false] at hx;rcases hx with rfl | rfl | rfl | rfl | rfl | rfl | rfl | rfl | rfl | rfl | rfl | rfl | rfl | rfl
 · exact ok_err1
 · exact ok_err2
 · exact ok_err3
 · exact ok_err4
 · exact ok_err5
 · exact ok_err6
 · exact ok_err7
 · exact ok_err8
 · exact ok_err9
 · exact ok_err10
 · exact ok_err11
 · exact ok_err12
 · exact ok_err13
 · exact ok_err14
theorem errs_of_laid {W:World} {l:List (String×DataW Unit)} (hl:l=errs14.map LaidE.datum) (h:laidMetH Tryd.prog l W):∃ea,Errs ea W:=by
 rw[MakeChecks.laidMetH_plain _ _ _ (by rw[hl];rfl)] at h;obtain⟨ps,h,hnd,hrows⟩:=h;rw[hl] at h;obtain⟨ea,h1,h2⟩:=sentinels errs14 ps (by decide) ok14 h hnd hrows;have hm:∀i:Int,1≤i→i≤14→∃x∈errs14,x.num=i:=num14
 refine⟨ea,(h1 err1 (by simp[errs14])).1,(h1 err2 (by simp[errs14])).1,(h1 err3 (by simp[errs14])).1,(h1 err4 (by simp[errs14])).1,(h1 err5 (by simp[errs14])).1,(h1 err6 (by simp[errs14])).1,(h1 err7 (by simp[errs14])).1,(h1 err8 (by simp[errs14])).1,(h1 err9 (by simp[errs14])).1,(h1 err10 (by simp[errs14])).1,(h1 err11 (by simp[errs14])).1,(h1 err12 (by simp[errs14])).1,(h1 err13 (by simp[errs14])).1,(h1 err14 (by simp[errs14])).1,?_,?_⟩
 · intro i j a b c d he;obtain⟨x,hx,rfl⟩:=hm i a b;obtain⟨y,hy,rfl⟩:=hm j c d;exact h2 x hx y hy he
 · intro i a b;obtain⟨x,hx,rfl⟩:=hm i a b;exact(hrows _ _ (h1 x hx).2).1
end Go.Proofs.YtbepkpjcjpmpmaaDoor
