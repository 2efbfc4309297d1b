/- FcG, FcP, Acts -/
import Derived.Test.YtlkajejbfojkeaaGreatDoorGFcAToFcF
import Derived.Maps.AppendAt
set_option linter.unusedSimpArgs false
set_option linter.unusedVariables false
set_option maxRecDepth 100000
set_option maxHeartbeats 16000000
namespace Go.Proofs.YtlkajejbfojkeaaGreatDoor
open Go.RowKit Go.Shelf
attribute [local go_sem] store_float
theorem same1_of (b1 b2 : Nat) (an aq oc dp : Int) (ex : Nat) (pa de : Int) (va1 va2 : Option Addr) (n vc1 vc2 : Nat) (rs : List SReg) (w : World) (h1 : Blk w b1 #[an, aq, oc, dp, .float .f64 ex, pa, de, .slice va1 n vc1]) (h2 : Blk w b2 #[an, aq, oc, dp, .float .f64 ex, pa, de, .slice va2 n vc2]) (hN : n = rs.length)
    (r1:w.ownsRow 0 55 6 (.slice va1 n vc1) n (regsL rs)) (r2:w.ownsRow 0 55 6 (.slice va2 n vc2) n (regsL rs)) (hx:F64 ex) (hn:n≤1000):Calls Tryz.prog 113 #[.pointer (some ⟨b1,0,none⟩),.pointer (some ⟨b2,0,none⟩)] w (Makes (.bool true) w):=by
 have HK1:=qq (fun W (hW:Below w.heap.size w W)=>h1.below hW);have HK2:=qq (fun W (hW:Below w.heap.size w W)=>h2.below hW);have HR1:=qq r1;have HR2:=qq r2;have HX:=qq hx;have HN:=qq hN;have l1:=h1.lt;have l2:=h2.lt;clear h1 h2 r1 r2 hx hN;go_enter Tryz.func113,Tryz.ntmps113;go_wp2_with fail
 refine reg_startZ (Below w.heap.size w) (fun _=>True) (by kernel_rfl) (bel_drew (Below.refl _ _)) True.intro (fun _=>false) ?_;rintro w1 hHeld -;refine takeX (d:=some 5) 0 rfl rfl hHeld (fun w' hS'=>by clear hS';go_simp;(try rfl)) ?_;simp only[puts];refine takeX (d:=some 6) 1 rfl rfl hHeld (fun w' hS'=>by clear hS';go_simp;(try rfl)) ?_;simp only[puts]
 refine takeX (d:=some 7) 2 rfl rfl hHeld (fun w' hS'=>by clear hS';go_simp;(try rfl)) ?_;simp only[puts];refine takeX (d:=some 8) 3 rfl rfl hHeld (fun w' hS'=>by have qA:=(HK1.out _ hS').cell;clear hS';go_simp;(try rfl)) ?_;simp only[puts];refine takeX (d:=some 9) 4 rfl rfl hHeld (fun w' hS'=>by clear hS';go_simp;(try rfl)) ?_;simp only[puts]
 refine takeX (d:=some 10) 5 rfl rfl hHeld (fun w' hS'=>by clear hS';go_simp;(try rfl)) ?_;simp only[puts];refine takeX (d:=some 11) 6 rfl rfl hHeld (fun w' hS'=>by clear hS';go_simp;(try rfl)) ?_;simp only[puts];refine takeX (d:=some 12) 7 rfl rfl hHeld (fun w' hS'=>by have qA:=(HK2.out _ hS').cell;clear hS';go_simp;(try rfl)) ?_;simp only[puts]
 refine call_Z (d:=some 13) 8 114 _ _ [.agg #[an,aq,oc,dp,.float .f64 ex],.agg #[an,aq,oc,dp,.float .f64 ex]] rfl rfl rfl (enters_of Tryz.func114 (by kernel_rfl) rfl) (by rfl) (by rfl) ?_;refine(scopeSame_of an aq oc dp ex _ HX.out).mono ?_;rintro e w28 ⟨rfl,hb⟩;replace hHeld:=below_then hHeld hb;clear hb;refine⟨_,rfl,.inr hHeld,?_⟩;simp only[puts]
 refine takeX (d:=some 14) 9 rfl rfl hHeld (fun w' hS'=>by clear hS';go_simp;(try rfl)) ?_;simp only[puts];refine takeX (d:=some 15) 10 rfl rfl hHeld (fun w' hS'=>by clear hS';go_simp;(try rfl)) ?_;simp only[puts];refine takeX (d:=some 16) 11 rfl rfl hHeld (fun w' hS'=>by clear hS';go_simp;(try rfl)) ?_;simp only[puts]
 refine takeX (d:=some 17) 12 rfl rfl hHeld (fun w' hS'=>by clear hS';go_simp;(try rfl)) ?_;simp only[puts];refine takeX (d:=some 18) 13 rfl rfl hHeld (fun w' hS'=>by have qA:=(HK1.out _ hS').cell;clear hS';go_simp;(try rfl)) ?_;simp only[puts];refine takeX (d:=some 19) 14 rfl rfl hHeld (fun w' hS'=>by clear hS';go_simp;(try rfl)) ?_;simp only[puts]
 refine takeX (d:=some 20) 15 rfl rfl hHeld (fun w' hS'=>by clear hS';go_simp;(try rfl)) ?_;simp only[puts];refine takeX (d:=some 21) 16 rfl rfl hHeld (fun w' hS'=>by clear hS';go_simp;(try rfl)) ?_;simp only[puts];refine takeX (d:=some 22) 17 rfl rfl hHeld (fun w' hS'=>by have qA:=(HK2.out _ hS').cell;clear hS';go_simp;(try rfl)) ?_;simp only[puts]
 refine takeX (d:=some 23) 18 rfl rfl hHeld (fun w' hS'=>by clear hS';go_simp;(try rfl)) ?_;simp only[puts];refine takeX (d:=some 24) 19 rfl rfl hHeld (fun w' hS'=>by clear hS';go_simp;(try rfl)) ?_;simp only[puts];refine takeX (d:=some 25) 20 rfl rfl hHeld (fun w' hS'=>by clear hS';go_simp;(try rfl)) ?_;simp only[puts]
 refine takeX (d:=some 26) 21 rfl rfl hHeld (fun w' hS'=>by clear hS';go_simp;(try rfl)) ?_;simp only[puts];refine takeX (d:=some 27) 22 rfl rfl hHeld (fun w' hS'=>by clear hS';go_simp;(try rfl)) ?_;simp only[puts];refine takeX (d:=some 28) 23 rfl rfl hHeld (fun w' hS'=>by clear hS';go_simp;(try rfl)) ?_;simp only[puts]
 refine takeX (d:=some 29) 24 rfl rfl hHeld (fun w' hS'=>by have qA:=(HK1.out _ hS').cell;clear hS';go_simp;(try rfl)) ?_;simp only[puts];refine takeX (d:=some 30) 25 rfl rfl hHeld (fun w' hS'=>by clear hS';go_simp;(try rfl)) ?_;simp only[puts];refine takeX (d:=some 31) 26 rfl rfl hHeld (fun w' hS'=>by clear hS';go_simp;(try rfl)) ?_;simp only[puts]
 refine takeX (d:=some 32) 27 rfl rfl hHeld (fun w' hS'=>by clear hS';go_simp;(try rfl)) ?_;simp only[puts];refine takeX (d:=some 33) 28 rfl rfl hHeld (fun w' hS'=>by have qA:=(HK2.out _ hS').cell;clear hS';go_simp;(try rfl)) ?_;simp only[puts];refine takeX (d:=some 34) 29 rfl rfl hHeld (fun w' hS'=>by clear hS';go_simp;(try rfl)) ?_;simp only[puts]
 refine takeX (d:=some 35) 30 rfl rfl hHeld (fun w' hS'=>by clear hS';go_simp;(try rfl)) ?_;simp only[puts];refine takeX (d:=some 36) 31 rfl rfl hHeld (fun w' hS'=>by clear hS';go_simp;(try rfl)) ?_;simp only[puts];refine takeX (d:=some 37) 32 rfl rfl hHeld (fun w' hS'=>by clear hS';go_simp;(try rfl)) ?_;simp only[puts]
 refine takeX (d:=some 38) 33 rfl rfl hHeld (fun w' hS'=>by clear hS';go_simp;(try rfl)) ?_;simp only[puts];refine takeX (d:=some 39) 34 rfl rfl hHeld (fun w' hS'=>by clear hS';go_simp;(try rfl)) ?_;simp only[puts];refine takeX (d:=some 40) 35 rfl rfl hHeld (fun w' hS'=>by have qA:=(HK1.out _ hS').cell;clear hS';go_simp;(try rfl)) ?_;simp only[puts]
 refine takeX (d:=some 41) 36 rfl rfl hHeld (fun w' hS'=>by clear hS';go_simp;(try rfl)) ?_;simp only[puts];refine takeX (d:=some 42) 37 rfl rfl hHeld (fun w' hS'=>by clear hS';go_simp;(try rfl)) ?_;simp only[puts];refine takeX (d:=some 43) 38 rfl rfl hHeld (fun w' hS'=>by clear hS';go_simp;(try rfl)) ?_;simp only[puts]
 refine takeX (d:=some 44) 39 rfl rfl hHeld (fun w' hS'=>by have qA:=(HK2.out _ hS').cell;clear hS';go_simp;(try rfl)) ?_;simp only[puts];refine call_Z (d:=some 45) 40 115 _ _ [.slice va1 n vc1,.slice va2 n vc2] rfl rfl rfl (enters_of Tryz.func115 (by kernel_rfl) rfl) (by rfl) (by rfl) ?_
 refine(eqReg_of va1 va2 n vc1 vc2 rs 0 0 _ _ _ HN.out (row_be HR1.out hHeld) (row_be HR2.out hHeld) hn).mono ?_;rintro e w60 ⟨rfl,hb⟩;replace hHeld:=below_then hHeld hb;clear hb;refine⟨_,rfl,.inr hHeld,?_⟩;simp only[puts];refine takeX (d:=some 46) 41 rfl rfl hHeld (fun w' hS'=>by clear hS';go_simp;(try rfl)) ?_;simp only[puts]
 refine takeX (d:=some 4) 42 rfl rfl hHeld (fun w' hS'=>by clear hS';go_simp;(try rfl)) ?_;simp only[puts];refine doneX (by kernel_rfl) ?_ _;have HBE:=qq hHeld;clear hHeld;go_wp2_with fail;go_ret;exact⟨rfl,HBE.out⟩
theorem eqFunc_of (a1 a2 : Option Addr) (n c1 c2 : Nat) (ab1 ab2 : List (Nat × Value)) (w : World) (h1 : w.ownsRow 0 159 1 (.slice a1 n c1) n (ptrs ab1)) (h2 : w.ownsRow 0 159 1 (.slice a2 n c2) n (ptrs ab2)) (hn : n ≤ 1000)
    (hS:∀(k:Nat) (x y:Nat×Value),ab1[k]? =some x→ab2[k]? =some y→∀W,Below w.heap.size w W→Calls Tryz.prog 113 #[.pointer (some ⟨x.1,0,none⟩),.pointer (some ⟨y.1,0,none⟩)] W (Makes (.bool true) W)):
    Calls Tryz.prog 117 #[.slice a1 n c1,.slice a2 n c2,.func (.func 113) #[] #[]] w (Makes (.bool true) w):=by
 obtain⟨b1,d1,e1,hl1,hr1⟩:=ptr_row h1;obtain⟨b2,d2,e2,hl2,hr2⟩:=ptr_row h2;simp only[Value.slice.injEq,true_and] at e1 e2;obtain⟨rfl,rfl⟩:=e1;obtain⟨rfl,rfl⟩:=e2;have HS:=qq hS;have H1:=qq hr1;have H2:=qq hr2;have HL1:=qq hl1;have HL2:=qq hl2;clear h1 h2 hS hr1 hr2 hl1 hl2;go_enter Tryz.func117,Tryz.ntmps117;go_wp2_with fail
 go_loopw [17] (fun i wr=>∃k:Nat,k≤n∧i=.int .i64 (k:Nat)∧Below w.heap.size w wr) (fun i _=>n - (intOf i).toNat)
 case atStart=>exact⟨0,by omega,by first | rfl | go_num,Below.refl _ _⟩
 case round=>
  obtain⟨k,hk,rfl,hB⟩:=hrel;by_cases hlt:k<n
  · obtain⟨g1,rfl,hg1,_,hp1⟩:=H1.out (by omega);obtain⟨g2,rfl,hg2,_,hp2⟩:=H2.out (by omega);obtain⟨x,hx⟩:∃x,ab1[k]? =some x:=⟨_,List.getElem?_eq_getElem (by have:=HL1.out;omega)⟩
    obtain⟨y,hy⟩:∃y,ab2[k]? =some y:=⟨_,List.getElem?_eq_getElem (by have:=HL2.out;omega)⟩
    have q1:=(hB.cell (p:=⟨g1,k,none⟩) hg1).trans (hp1 k x hx);have q2:=(hB.cell (p:=⟨g2,k,none⟩) hg2).trans (hp2 k y hy);have HC:=qq (HS.out k x y hx hy wr hB);have hki:(k:Int)<(n:Int):=by omega
    have hk0:(0:Int)≤(k:Int):=by omega
    have hw1:g1<wr.heap.size:=Nat.lt_of_lt_of_le hg1 hB.size;have hw2:g2<wr.heap.size:=Nat.lt_of_lt_of_le hg2 hB.size;clear hp1 hp2 hx hy;go_wp2_with fail;refine HC.out.mono ?_;rintro e w3 ⟨rfl,hb3⟩;have B3:=below_then hB hb3;clear hb3 q1 q2;go_wp2_with fail
    all_goals (go_roundw<;>first | exact⟨k+1,by omega,by go_num,B3⟩ | (simp[intOf];omega))
  · obtain rfl:k=n:=by omega
    go_wp2_with fail;go_ret;exact⟨rfl,hB⟩
theorem ssame_of (L L2:SLoc) (St:Sto) (w:World) (h1:StoreAt L St w) (h2:StoreAt L2 St w) (hG:StoGood St) (hx:∀a∈St.acts,F64 a.ex):Calls Tryz.prog 32 #[.pointer (some ⟨L.sb,0,none⟩),.pointer (some ⟨L2.sb,0,none⟩)] w (Makes (.bool true) w):=by
 obtain⟨pa1,pc1,e1⟩:=row_slice h1.parts;obtain⟨pa2,pc2,e2⟩:=row_slice h2.parts;obtain⟨aa1,ac1,e3⟩:=row_slice h1.acts;obtain⟨aa2,ac2,e4⟩:=row_slice h2.acts;obtain⟨np,hnp⟩:∃n,n=St.parts.length:=⟨_,rfl⟩
 obtain⟨na,hna⟩:∃n,n=St.acts.length:=⟨_,rfl⟩
 have hp8:=hG.parts;have ha8:=hG.acts;rw[←hnp] at e1 e2 hp8;rw[←hna] at e3 e4 ha8;have HEP:=qq (fun W (hW:Below w.heap.size w W)=>eqPart_of pa1 pa2 np pc1 pc2 St.parts 0 0 _ _ W hnp (by have:=(h1.below hW).parts;rw[e1,←hnp] at this;exact this) (by have:=(h2.below hW).parts;rw[e2,←hnp] at this;exact this) (by omega))
 have HEA:=qq (fun W (hW:Below w.heap.size w W)=>eqFunc_of aa1 aa2 na ac1 ac2 L.ab L2.ab W (by have:=(h1.below hW).acts;rw[e3,←hna] at this;exact this) (by have:=(h2.below hW).acts;rw[e4,←hna] at this;exact this) (by omega) (fun k x y hkx hky W' hW'=>by
   have hk:=(List.getElem?_eq_some_iff.1 hkx).1;rw[h1.len] at hk;have ha:St.acts[k]? =some St.acts[k]:=List.getElem?_eq_getElem hk;obtain⟨k1,r1⟩:=((h1.below hW).below hW').act k x _ hkx ha;obtain⟨k2,r2⟩:=((h2.below hW).below hW').act k y _ hky ha;obtain⟨va1,vc1,hv1⟩:=row_slice r1;obtain⟨va2,vc2,hv2⟩:=row_slice r2;rw[hv1] at k1 r1;rw[hv2] at k2 r2
   exact same1_of x.1 y.1 _ _ _ _ _ _ _ va1 va2 _ vc1 vc2 _ W' k1 k2 rfl r1 r2 (hx _ (List.getElem_mem hk)) (by have:=(hG.act _ (List.getElem_mem hk)).len;omega)))
 have HK1:=qq (fun W (hW:Below w.heap.size w W)=>(h1.below hW).blk);have HK2:=qq (fun W (hW:Below w.heap.size w W)=>(h2.below hW).blk);rw[e1,e3] at HK1;rw[e2,e4] at HK2;have l1:=h1.blk.lt;have l2:=h2.blk.lt;clear h1 h2 hG hx e1 e2 e3 e4 hnp hna;go_enter Tryz.func32,Tryz.ntmps32;go_wp2_with fail
 refine reg_startZ (Below w.heap.size w) (fun _=>True) (by kernel_rfl) (bel_drew (Below.refl _ _)) True.intro (fun _=>false) ?_;rintro w1 hHeld -;refine takeX (d:=some 6) 0 rfl rfl hHeld (fun w' hS'=>by clear hS';go_simp;(try rfl)) ?_;simp only[puts];refine takeX (d:=some 7) 1 rfl rfl hHeld (fun w' hS'=>by clear hS';go_simp;(try rfl)) ?_;simp only[puts]
 refine takeX (d:=some 8) 2 rfl rfl hHeld (fun w' hS'=>by clear hS';go_simp;(try rfl)) ?_;simp only[puts];refine takeX (d:=some 9) 3 rfl rfl hHeld (fun w' hS'=>by have qA:=(HK1.out _ hS').cell;clear hS';go_simp;(try rfl)) ?_;simp only[puts];refine takeX (d:=some 10) 4 rfl rfl hHeld (fun w' hS'=>by clear hS';go_simp;(try rfl)) ?_;simp only[puts]
 refine takeX (d:=some 11) 5 rfl rfl hHeld (fun w' hS'=>by clear hS';go_simp;(try rfl)) ?_;simp only[puts];refine takeX (d:=some 12) 6 rfl rfl hHeld (fun w' hS'=>by clear hS';go_simp;(try rfl)) ?_;simp only[puts];refine takeX (d:=some 13) 7 rfl rfl hHeld (fun w' hS'=>by have qA:=(HK2.out _ hS').cell;clear hS';go_simp;(try rfl)) ?_;simp only[puts]
 refine takeX (d:=some 14) 8 rfl rfl hHeld (fun w' hS'=>by clear hS';go_simp;(try rfl)) ?_;simp only[puts];refine takeX (d:=some 15) 9 rfl rfl hHeld (fun w' hS'=>by clear hS';go_simp;(try rfl)) ?_;simp only[puts];refine takeX (d:=some 16) 10 rfl rfl hHeld (fun w' hS'=>by clear hS';go_simp;(try rfl)) ?_;simp only[puts]
 refine takeX (d:=some 17) 11 rfl rfl hHeld (fun w' hS'=>by clear hS';go_simp;(try rfl)) ?_;simp only[puts];refine takeX (d:=some 18) 12 rfl rfl hHeld (fun w' hS'=>by clear hS';go_simp;(try rfl)) ?_;simp only[puts];refine takeX (d:=some 19) 13 rfl rfl hHeld (fun w' hS'=>by have qA:=(HK1.out _ hS').cell;clear hS';go_simp;(try rfl)) ?_;simp only[puts]
 refine takeX (d:=some 20) 14 rfl rfl hHeld (fun w' hS'=>by clear hS';go_simp;(try rfl)) ?_;simp only[puts];refine takeX (d:=some 21) 15 rfl rfl hHeld (fun w' hS'=>by clear hS';go_simp;(try rfl)) ?_;simp only[puts];refine takeX (d:=some 22) 16 rfl rfl hHeld (fun w' hS'=>by clear hS';go_simp;(try rfl)) ?_;simp only[puts]
 refine takeX (d:=some 23) 17 rfl rfl hHeld (fun w' hS'=>by have qA:=(HK2.out _ hS').cell;clear hS';go_simp;(try rfl)) ?_;simp only[puts];refine takeX (d:=some 24) 18 rfl rfl hHeld (fun w' hS'=>by clear hS';go_simp;(try rfl)) ?_;simp only[puts];refine takeX (d:=some 25) 19 rfl rfl hHeld (fun w' hS'=>by clear hS';go_simp;(try rfl)) ?_;simp only[puts]
 refine takeX (d:=some 26) 20 rfl rfl hHeld (fun w' hS'=>by clear hS';go_simp;(try rfl)) ?_;simp only[puts];refine takeX (d:=some 27) 21 rfl rfl hHeld (fun w' hS'=>by clear hS';go_simp;(try rfl)) ?_;simp only[puts];refine takeX (d:=some 28) 22 rfl rfl hHeld (fun w' hS'=>by clear hS';go_simp;(try rfl)) ?_;simp only[puts]
 refine takeX (d:=some 29) 23 rfl rfl hHeld (fun w' hS'=>by clear hS';go_simp;(try rfl)) ?_;simp only[puts];refine takeX (d:=some 30) 24 rfl rfl hHeld (fun w' hS'=>by have qA:=(HK1.out _ hS').cell;clear hS';go_simp;(try rfl)) ?_;simp only[puts];refine takeX (d:=some 31) 25 rfl rfl hHeld (fun w' hS'=>by clear hS';go_simp;(try rfl)) ?_;simp only[puts]
 refine takeX (d:=some 32) 26 rfl rfl hHeld (fun w' hS'=>by clear hS';go_simp;(try rfl)) ?_;simp only[puts];refine takeX (d:=some 33) 27 rfl rfl hHeld (fun w' hS'=>by clear hS';go_simp;(try rfl)) ?_;simp only[puts];refine takeX (d:=some 34) 28 rfl rfl hHeld (fun w' hS'=>by have qA:=(HK2.out _ hS').cell;clear hS';go_simp;(try rfl)) ?_;simp only[puts]
 refine call_Z (d:=some 35) 29 116 _ _ [.slice pa1 np pc1,.slice pa2 np pc2] rfl rfl rfl (enters_of Tryz.func116 (by kernel_rfl) rfl) (by rfl) (by rfl) ?_;refine(HEP.out _ hHeld).mono ?_;rintro e w49 ⟨rfl,hb⟩;replace hHeld:=below_then hHeld hb;clear hb;refine⟨_,rfl,.inr hHeld,?_⟩;simp only[puts];refine takeX (d:=some 36) 30 rfl rfl hHeld (fun w' hS'=>by clear hS';go_simp;(try rfl)) ?_
 simp only[puts];refine takeX (d:=some 37) 31 rfl rfl hHeld (fun w' hS'=>by clear hS';go_simp;(try rfl)) ?_;simp only[puts];refine takeX (d:=some 38) 32 rfl rfl hHeld (fun w' hS'=>by clear hS';go_simp;(try rfl)) ?_;simp only[puts];refine takeX (d:=some 39) 33 rfl rfl hHeld (fun w' hS'=>by clear hS';go_simp;(try rfl)) ?_;simp only[puts]
 refine takeX (d:=some 40) 34 rfl rfl hHeld (fun w' hS'=>by clear hS';go_simp;(try rfl)) ?_;simp only[puts];refine takeX (d:=some 41) 35 rfl rfl hHeld (fun w' hS'=>by have qA:=(HK1.out _ hS').cell;clear hS';go_simp;(try rfl)) ?_;simp only[puts];refine takeX (d:=some 42) 36 rfl rfl hHeld (fun w' hS'=>by clear hS';go_simp;(try rfl)) ?_;simp only[puts]
 refine takeX (d:=some 43) 37 rfl rfl hHeld (fun w' hS'=>by clear hS';go_simp;(try rfl)) ?_;simp only[puts];refine takeX (d:=some 44) 38 rfl rfl hHeld (fun w' hS'=>by clear hS';go_simp;(try rfl)) ?_;simp only[puts];refine takeX (d:=some 45) 39 rfl rfl hHeld (fun w' hS'=>by have qA:=(HK2.out _ hS').cell;clear hS';go_simp;(try rfl)) ?_;simp only[puts]
 refine takeX (d:=some 46) 40 rfl rfl hHeld (fun w' hS'=>by clear hS';go_simp;(try rfl)) ?_;simp only[puts];refine call_Z (d:=some 47) 41 117 _ _ [.slice aa1 na ac1,.slice aa2 na ac2,.func (.func 113) #[] #[]] rfl rfl rfl (enters_of Tryz.func117 (by kernel_rfl) rfl) (by rfl) (by rfl) ?_;refine(HEA.out _ hHeld).mono ?_;rintro e w61 ⟨rfl,hb⟩;replace hHeld:=below_then hHeld hb;clear hb
 refine⟨_,rfl,.inr hHeld,?_⟩;simp only[puts];refine takeX (d:=some 48) 42 rfl rfl hHeld (fun w' hS'=>by clear hS';go_simp;(try rfl)) ?_;simp only[puts];refine takeX (d:=some 4) 43 rfl rfl hHeld (fun w' hS'=>by clear hS';go_simp;(try rfl)) ?_;simp only[puts];refine doneX (by kernel_rfl) ?_ _;have HBE:=qq hHeld;clear hHeld;go_wp2_with fail;go_ret;exact⟨rfl,HBE.out⟩
theorem sapply_ok {S:Sto} {f:SFact} (h:(sapply S f).2=0):fok f=true∧sput S f=some (sapply S f).1:=by
 unfold sapply at h⊢;by_cases hf:fok f=false
 · rw[if_pos hf] at h;cases h
 · rw[if_neg hf] at h⊢;refine⟨by simpa using hf,?_⟩
   cases hs:sput S f with
   | none=>rw[hs] at h;cases h
   | some T=>rfl
theorem sapply_no {S:Sto} {f:SFact} (h:(sapply S f).2≠0):(sapply S f).1=S:=by
 unfold sapply at h⊢;by_cases hf:fok f=false
 · rw[if_pos hf]
 · rw[if_neg hf] at h⊢
   cases hs:sput S f with
   | none=>rfl
   | some T=>rw[hs] at h;exact absurd rfl h
theorem sput_node {S T:Sto} {f:SFact} (h:sput S f=some T):T.node=S.node:=by
 unfold sput at h;split at h
 · split at h
   · cases h
   · injection h with h;subst h;rfl
 · split at h
   · split at h
     · cases h
     · injection h with h;subst h;rfl
   · split at h
     · split at h
       · cases h
       · split at h
         · obtain⟨t,_,ht⟩:=Option.map_eq_some_iff.1 h;subst ht;rfl
         · split at h
           · cases h
           · injection h with h;subst h;rfl
     · split at h
       · cases h
       · split at h
         · cases h
         · split at h
           · split at h
             · cases h
             · injection h with h;subst h;rfl
           · obtain⟨t,_,ht⟩:=Option.map_eq_some_iff.1 h;subst ht;rfl
theorem sapply_node (S:Sto) (f:SFact):(sapply S f).1.node=S.node:=by
 by_cases h:(sapply S f).2=0
 · exact sput_node (sapply_ok h).2
 · rw[sapply_no h]
open Go.RowKit
theorem infoActI:(Tryz.prog.info? 51).map (fun i=>(i.zero,i.size,i.bytes))=some (some (.agg #[.int .i64 0,.int .i64 0,.int .i64 0,.int .i64 0,.float .f64 0,.int .i64 0,.int .i64 0,.slice none 0 0]),8,80):=by kernel_rfl
structure ActsIn (B:Nat) (v:Value) (al:List SAct) (vs:List Value) (w:World):Prop where
 len:vs.length=al.length
 row:w.ownsRow B 51 8 v al.length (actsL al vs)
 regs:∀(i:Nat) (a:SAct) (x:Value),al[i]? =some a→vs[i]? =some x→w.ownsRow B 55 6 x a.regs.length (regsL a.regs)
 apart:∀x∈vs,∀k,x.ownBlock=some k→v.ownBlock≠some k
theorem ActsIn.below {B:Nat} {v:Value} {al:List SAct} {vs:List Value} {w w':World} (h:ActsIn B v al vs w) (hb:Below w.heap.size w w'):ActsIn B v al vs w':=
 ⟨h.len,row_heap h.row (fun k hk=>hb.block k (h.row.lt k hk).2),fun i a x h1 h2=>row_heap (h.regs i a x h1 h2) (fun k hk=>hb.block k ((h.regs i a x h1 h2).lt k hk).2),h.apart⟩
theorem ActsIn.nil (B:Nat) (w:World):ActsIn B (.slice none 0 0) [] [] w:=⟨rfl,World.ownsRow_nil _ _ _ _,fun i a x h=>by simp at h,fun x h=>by cases h⟩
theorem ActsIn.snoc {B : Nat} {v v2 : Value} {al : List SAct} {vs : List Value} {w w2 : World} {a : SAct} {x : Value} (h : ActsIn B v al vs w) (hx : w.ownsRow B 55 6 x a.regs.length (regsL a.regs)) (hax : ∀ k, x.ownBlock = some k → v.ownBlock ≠ some k)
    (hr:w2.ownsRow B 51 8 v2 (al.length+1) (actsL al vs ++actL a x)) (hg:w.grownBy w2 v.ownBlock) (hat:v2.ownBlock=v.ownBlock∨v2.ownBlock=some w.heap.size):ActsIn B v2 (al ++ [a]) (vs ++ [x]) w2:=by
 have keep:∀(u:Value) (r:List SReg),w.ownsRow B 55 6 u r.length (regsL r)→(∀k,u.ownBlock=some k→v.ownBlock≠some k)→w2.ownsRow B 55 6 u r.length (regsL r):=fun u r h1 h2=>
  row_heap h1 (fun k hk=>hg.block k (h1.lt k hk).2 (fun e=>h2 k hk e.symm))
 have apart2:∀(u:Value) (r:List SReg),w.ownsRow B 55 6 u r.length (regsL r)→(∀k,u.ownBlock=some k→v.ownBlock≠some k)→∀k,u.ownBlock=some k→v2.ownBlock≠some k:=fun u r h1 h2 k hk e=>by
  rcases hat with h3 | h3
  · exact h2 k hk (by rw[←h3];exact e)
  · have:=(h1.lt k hk).2;rw[h3] at e;injection e with e
    omega
 have hl:=h.len;refine⟨by simp[h.len],?_,fun i a' x' h1 h2=> ?_,fun u hu k hk=> ?_⟩
 · rw[List.length_append];unfold actsL at hr⊢;rw[List.zip_append h.len.symm,List.flatMap_append];simpa using hr
 · by_cases hi:i<al.length
   · rw[List.getElem?_append_left hi] at h1;rw[List.getElem?_append_left (by omega)] at h2;exact keep _ _ (h.regs i a' x' h1 h2) (h.apart x' (List.mem_of_getElem? h2))
   · rw[List.getElem?_append_right (by omega)] at h1;rw[List.getElem?_append_right (by omega),hl] at h2;have e0:i - al.length=0:=by
      rcases Nat.eq_zero_or_pos (i - al.length) with e | e
      · exact e
      · rw[List.getElem?_eq_none (by simp;omega)] at h1;cases h1
     rw[e0] at h1 h2;simp at h1 h2;subst h1 h2;exact keep _ _ hx hax
 · rcases List.mem_append.1 hu with hu | hu
   · obtain⟨i,hi,rfl⟩:=List.getElem_of_mem hu;exact apart2 _ _ (h.regs i al[i] vs[i] (List.getElem?_eq_getElem (by omega)) (List.getElem?_eq_getElem hi)) (h.apart _ hu) k hk
   · obtain rfl:=List.mem_singleton.1 hu;exact apart2 _ _ hx hax k hk
theorem actL_ones (a:SAct) (v:Value) (hv:v.oneCell'=true):∀u∈actL a v,u.oneCell'=true:=by
 intro u hu;simp only[actL,List.mem_cons,List.not_mem_nil,or_false] at hu;rcases hu with rfl | rfl | rfl | rfl | rfl | rfl | rfl | rfl<;>first | rfl | exact hv
theorem acts_of (L:SLoc) (S:Sto) (w:World) (h:StoreAt L S w) (hG:StoGood S):Calls Tryz.prog 24 #[.pointer (some ⟨L.sb,0,none⟩)] w fun e w'=>∃v vs,e=.returned v∧ActsIn w.heap.size v S.acts vs w'∧Below w.heap.size w w':=by
 obtain⟨i0,ei,ez,es,eb⟩:=info_parts infoActI;obtain⟨aa,ac,hav,hal,har⟩:=ptr_row h.acts;have h8:=hG.acts;have HACT:=qq (fun W (hW:StoreAt L S W)=>hW.act);have HLEN:=qq (fun a (ha:a∈S.acts)=>(hG.act a ha).len);have H:=qq h;have hlen:=h.len;obtain⟨n,hn⟩:∃n,n=S.acts.length:=⟨_,rfl⟩
 rw[←hn] at har h8;have c2:∀W,StoreAt L S W→W.cell? ⟨L.sb,2,none⟩=some (.slice aa n ac):=fun W hW=>by have:=hW.blk.cell 2;rw[hav] at this;rw[hn];exact this
 have HC2:=qq c2;have HAR:=qq har;have HN:=qq hn;have HHL:=qq hlen;have hsb:=h.blk.lt;have q2:=c2 w h;clear h hG har hal hav c2 hn hlen;go_enter Tryz.func24,Tryz.ntmps24;go_wp2_with fail;go_loopw [3,11] (fun v i wr=>∃k:Nat,k≤n∧i=.int .i64 (k:Nat)∧Hid (∃vs,ActsIn w.heap.size v (S.acts.take k) vs wr)∧Below w.heap.size w wr) (fun _ i _=>n - (intOf i).toNat)
 case atStart=>exact⟨0,by omega,by first | rfl | go_num,qq ⟨[],by rw[List.take_zero];exact ActsIn.nil _ _⟩,by go_grown⟩
 case round=>
  obtain⟨k,hk,rfl,⟨vs,HV⟩,hB⟩:=hrel;have HVS:=qq HV;by_cases hlt:k<n
  · have hks:k<S.acts.length:=by rw[←HN.out];exact hlt
    obtain⟨g,rfl,hg,_,hpt⟩:=HAR.out (by omega);obtain⟨x,hx⟩:∃x,L.ab[k]? =some x:=⟨_,List.getElem?_eq_getElem (by rw[HHL.out];exact hks)⟩
    obtain⟨a,ha⟩:∃a,S.acts[k]? =some a:=⟨_,List.getElem?_eq_getElem hks⟩
    have HS:=qq (H.out.below hB);obtain⟨hbk,hrg⟩:=HACT.out _ HS.out k x a hx ha;have hp:=(hB.cell (p:=⟨g,k,none⟩) hg).trans (hpt k x hx);have HCP:=qq (copied_of a x.2 wr hrg (HLEN.out a (List.mem_of_getElem? ha)));have HA:=qq ha;have lk:=hbk.lt;have qk:=hbk.cell;have hki:(k:Int)<(n:Int):=by omega
    have hk0:(0:Int)≤(k:Int):=by omega
    have hgw:g<wr.heap.size:=Nat.lt_of_lt_of_le hg hB.size;have hl6:=HLEN.out a (List.mem_of_getElem? ha);have hlt8:(S.acts.take k).length=k:=by rw[List.length_take];omega
    obtain⟨av,cv,hv⟩:=row_slice HV.row;rw[hlt8] at hv;subst hv;obtain⟨xb,xv⟩:=x;obtain⟨an,aq,oc,dp,ex,pa,de,rs⟩:=a;dsimp only[actC] at*;clear hbk hrg hpt hx ha HV;go_wp2_with fail;refine HCP.out.mono ?_;rintro e w1 ⟨v',rfl,ho,hb1⟩;obtain⟨va,vc,rfl⟩:=row_slice ho;have HO:=qq (row_base ho hB.size);have HNB:=qq (fun j hj=>(ho.lt j hj).1);have HV1:=qq (HVS.out.below hb1)
    have B1:Below w.heap.size w w1:=below_then hB hb1;have hsz1:=hb1.size;clear hp qk lk ho hb1
    go_wp2_with (at_builtin;refine wpList_append_own_at _ rfl _ _ 45 rfl w.heap.size 51 i0 (.agg #[.int .i64 0,.int .i64 0,.int .i64 0,.int .i64 0,.float .f64 0,.int .i64 0,.int .i64 0,.slice none 0 0]) 8 80 Tryz.underlying45 ei ez es eb rfl (by decide) _ _ _ rfl (by have:=HV1.out.row;rw[hlt8] at this;exact row_heap this (fun k hk=>by rw[((Below.refl w1.heap.size w1).alloc (Nat.le_refl _) _).block k (this.lt k hk).2])) ⟨w1.heap.size,0,none⟩ 1 1 (actL ⟨an,aq,oc,dp,ex,pa,de,rs⟩ (.slice va rs.length vc)) (by rfl) rfl (lit_cells (Blk.fresh _ _ _ _ rfl)) (actL_ones _ _ rfl) ?d3 ?d4 ?d5 ?_)
    case d3=>unfold maxLen;omega
    case d4=>omega
    case d5=>have:=B1.size;simp;omega
    intro v2 w3 hown hgrow _ hat;have HW:=qq (show ∃vs2,ActsIn w.heap.size v2 (S.acts.take (k+1)) vs2 w3 from⟨vs ++ [.slice va rs.length vc],by
      have htk:S.acts.take (k+1)=S.acts.take k ++ [⟨an,aq,oc,dp,ex,pa,de,rs⟩]:=by
        obtain⟨hj,he⟩:=List.getElem?_eq_some_iff.1 HA.out;rw[List.take_succ_eq_append_getElem hj,he]
      rw[htk];refine ActsIn.snoc (w:=w1.alloc (.cells #[an,aq,oc,dp,.float .f64 ex,pa,de,.slice va rs.length vc] 51)) (HV1.out.below ((Below.refl w1.heap.size w1).alloc (Nat.le_refl _) _)) (row_heap HO.out (fun j hj=>((Below.refl w1.heap.size w1).alloc (Nat.le_refl _) _).block j (HO.out.lt j hj).2)) (fun j hj e=> ?_) (by rw[hlt8];exact hown) hgrow (by simpa using hat);have h1:=HNB.out j hj
      have h2:=(HVS.out.row.lt j e).2;omega⟩)
    have B3:Below w.heap.size w w3:=(B1.alloc B1.size _).grown hgrow (by have:=B1.size;simp;omega) (fun j hj=>by have:=(HVS.out.row.lt j hj).1;omega);clear hown hgrow hat;go_wp2_with fail
    all_goals (go_roundw<;>first | exact⟨k+1,by omega,by go_num,HW,B3⟩ | (simp[intOf];omega))
  · obtain rfl:k=n:=by omega
    have HF:Hid (ActsIn w.heap.size _ S.acts vs wr):=qq (by have:=HVS.out;rw[List.take_of_length_le (by rw[←HN.out];omega)] at this;exact this);obtain⟨av,cv,rfl⟩:=row_slice HF.out.row;go_wp2_with fail;go_ret;exact⟨_,vs,rfl,HF.out,hB⟩
end Go.Proofs.YtlkajejbfojkeaaGreatDoor
