/- PcC -/
import Derived.Test.YtbepkpjcjpmpmaaDoorAPolNToPolV
set_option linter.unusedSimpArgs false
set_option linter.unusedVariables false
set_option maxRecDepth 100000
set_option maxHeartbeats 16000000
namespace Go.Proofs.YtbepkpjcjpmpmaaDoor
open Go.RowKit Go.Shelf
theorem tree_go (g : Nat) : ∀ (v : Value) (row : List Pc) (i : Nat) (w : World), row.length - i ≤ g → i < row.length → row.length ≤ 30 → PcsV w v row →
    Calls Tryd.prog 7 #[v,.int .i64 (i:Int)] w (ExGives (pTree row i) w):=by
 induction g with
 | zero=>intro v row i w hg hi;omega
 | succ g ih=>
  intro v row i w hg hi h30 hV;obtain⟨i0,ei,ez,es,eb⟩:=info_parts infoEx;obtain⟨p,hp⟩:∃p,row[i]? =some p:=⟨_,List.getElem?_eq_getElem hi⟩
  have HRES:Hid (∀a c n w',n=(tK row (row.length - (i+1)) i).len→KC w.heap.size w'.heap.size w' (tK row (row.length - (i+1)) i) a→Below w.heap.size w w'→ExGives (pTree row i) w (.returned (.agg #[p.op,.string ⟨p.nm.toArray⟩,.bool p.opt,.slice a n c])) w'):=qq (fun a c n w' hn h1 h2=>by
    have e:pTree row i=⟨p.op,p.nm,p.opt,tK row (row.length - (i+1)) i⟩:=by unfold pTree;rw[hp]
    rw[e];exact⟨a,c,by rw[hn];rfl,h1,h2⟩)
  have HPV:=qq (fun W (hW:Below w.heap.size w W)=>hV.below hW);have IH:=qq (fun W k (hW:Below w.heap.size w W) (hk:i<k) (hk2:k<row.length)=>ih v row k W (by omega) hk2 h30 (hV.below hW));generalize ExGives (pTree row i) w=R at HRES⊢;obtain⟨av,cv,rfl,hcells⟩:=hV;obtain⟨b,o,rfl,hbw,c0,c1,c2,c3⟩:=hcells i p hp;obtain⟨n,hn⟩:∃n,n=row.length:=⟨_,rfl⟩
  have HN:=qq hn;rw[←hn] at hi h30 HRES IH⊢;obtain⟨pp,OP,nm,opt⟩:=p;dsimp only at c0 c1 c2 c3 HRES;clear hcells hg ih hn hp;have hi0:(0:Int)≤(i:Int):=by omega
  have hi1:(i:Int)<(n:Int):=by omega
  go_enter Tryd.func7,Tryd.ntmps7;go_wp2_with fail;have HB0:Below w.heap.size w (w.alloc (.cells exZ 32)):=(Below.refl _ _).alloc (Nat.le_refl _) _;have HP0:(w.alloc (.cells exZ 32)).heap[w.heap.size]? =some (.cells exZ 32 (0,0)):=hp_new _ rfl;have C0:=qq c0;have C1:=qq c1;have C2:=qq c2;have C3:=qq c3;have HBW:=qq hbw
  refine reg_start2 (fun w'=>Below w.heap.size w w') (fun w'=>w'=(w.alloc (.cells exZ 32)).drew) (by kernel_rfl) (bel_drew HB0) rfl ?_;rintro w1 hHeld hw1;clear c0 c1 c2 c3;refine takeM (d:=some 7) 0 rfl rfl hHeld (fun w' hS'=>by clear hS';go_simp;(try rfl)) ?_;simp only[puts];refine takeM (d:=some 8) 1 rfl rfl hHeld (fun w' hS'=>by clear hS';go_simp;(try rfl)) ?_;simp only[puts]
  refine takeM (d:=some 9) 2 rfl rfl hHeld (fun w' hS'=>by clear hS';go_simp;(try rfl)) ?_;simp only[puts];refine takeM (d:=some 10) 3 rfl rfl hHeld (fun w' hS'=>by clear hS';go_simp;(try rfl)) ?_;simp only[puts];refine takeM (d:=some 11) 4 rfl rfl hHeld (fun w' hS'=>by have qc:=(hS'.cell (p:=⟨b,_,none⟩) HBW.out).trans C1.out;clear hS';go_simp;(try rfl)) ?_;simp only[puts]
  refine takeM (d:=some 12) 5 rfl rfl hHeld (fun w' hS'=>by clear hS';go_simp;(try rfl)) ?_;simp only[puts];refine takeM (d:=some 13) 6 rfl rfl hHeld (fun w' hS'=>by clear hS';go_simp;(try rfl)) ?_;simp only[puts];refine takeM (d:=some 14) 7 rfl rfl hHeld (fun w' hS'=>by clear hS';go_simp;(try rfl)) ?_;simp only[puts]
  refine takeM (d:=some 15) 8 rfl rfl hHeld (fun w' hS'=>by clear hS';go_simp;(try rfl)) ?_;simp only[puts];refine takeM (d:=some 16) 9 rfl rfl hHeld (fun w' hS'=>by have qc:=(hS'.cell (p:=⟨b,_,none⟩) HBW.out).trans C2.out;clear hS';go_simp;(try rfl)) ?_;simp only[puts];refine takeM (d:=some 17) 10 rfl rfl hHeld (fun w' hS'=>by clear hS';go_simp;(try rfl)) ?_;simp only[puts]
  refine takeM (d:=some 18) 11 rfl rfl hHeld (fun w' hS'=>by clear hS';go_simp;(try rfl)) ?_;simp only[puts];refine takeM (d:=some 19) 12 rfl rfl hHeld (fun w' hS'=>by clear hS';go_simp;(try rfl)) ?_;simp only[puts];refine takeM (d:=some 20) 13 rfl rfl hHeld (fun w' hS'=>by clear hS';go_simp;(try rfl)) ?_;simp only[puts]
  refine takeM (d:=some 21) 14 rfl rfl hHeld (fun w' hS'=>by have qc:=(hS'.cell (p:=⟨b,_,none⟩) HBW.out).trans C3.out;clear hS';go_simp;(try rfl)) ?_;simp only[puts];refine takeM (d:=some 22) 15 rfl rfl hHeld (fun w' hS'=>by clear hS';go_simp;(try rfl)) ?_;simp only[puts];refine one_M 16 (by kernel_rfl) ?_
  refine new_T (d:=some 5) 16 (.pointer (some ⟨w1.heap.size,0,none⟩)) exZ 32 rfl rfl (by go_simp) (bel_alloc hHeld _) ?_;rintro w2 hHeld;simp only[puts];refine last_row 17 32 _ _ rfl rfl rfl w1.heap.size #[.int .i64 OP,.string ⟨nm.toArray⟩,.bool opt,.slice none 0 0] exZ 32 hHeld.2.1.2 rfl rfl (by kernel_rfl) rfl (by simp[Value.oneCell']) ?_;intro w3 hb3 hg3
  have hz1:w1.heap.size=w.heap.size+1:=by rw[hw1];simp
  have hBB:=hHeld.2.2;obtain⟨le,qe,fe⟩:=hb3;have HBE:Hid (Blk w3 (w.heap.size+1) #[OP,.string ⟨nm.toArray⟩,.bool opt,.slice none 0 0]):=qq (by rw[←hz1];exact⟨le,qe,fe⟩);have HP3:Hid (w3.heap[w.heap.size]? =some (.cells exZ 32 (0,0))):=qq ((hg3.block _ (by have:=hBB.size;omega) (fun e=>by injection e with e;omega)).trans (hp_be (by rw[hw1];exact hp_dr HP0) hBB))
  have HB3:=qq (bel_gr hHeld.1 hg3 (by omega));clear hHeld hBB hg3 HB0 HP0 qe fe hbw;rw[hz1];clear hz1 hw1;go_wp2_with fail
  go_loopw [6] (fun kk wr=>∃(k m:Nat) (acc:PF) (ao:Option Addr) (co:Nat),i<k∧k≤n∧m≤k∧kk=.int .i64 (k:Int)∧Hid (acc.app (tK row (n - k) i)=tK row (n - (i+1)) i)∧Hid (KidsIn (w.heap.size+1+1) 32 wr acc (.slice ao m co) m)∧Hid (Blk wr (w.heap.size+1) #[OP,.string ⟨nm.toArray⟩,.bool opt,.slice ao m co])∧Hid (wr.heap[w.heap.size]? =some (.cells exZ 32 (0,0)))∧Hid (Below w.heap.size w wr)) (fun kk _=>n - (intOf kk).toNat)
  case atStart=>exact⟨i+1,0,.nil,none,0,by omega,by omega,by omega,by first | rfl | go_num,qq rfl,qq (KidsIn.nil _ _ _),HBE,HP3,HB3⟩
  case round=>
   obtain⟨k,m,acc,ao,co,hik,hkn,hmk,rfl,HAC,HO,HT,HP,HB⟩:=hrel;have hk0:(0:Int)≤(k:Int):=by omega
   have hwr:=HB.out.size;have hpl:=(Array.getElem?_eq_some_iff.1 HP.out).1;have htl:=HT.out.lt;by_cases hlt:k<n
   · have hk1:(k:Int)<(n:Int):=by omega
     obtain⟨p,hp⟩:∃p,row[k]? =some p:=⟨_,List.getElem?_eq_getElem (by rw[←HN.out];exact hlt)⟩
     obtain⟨a',c',ev,hc⟩:=HPV.out _ HB.out;injection ev with ev1 _ ev2
     subst ev1 ev2;obtain⟨b',o',ev3,hbw,c0,c1,c2,c3⟩:=hc k p hp;injection ev3 with ev3
     injection ev3 with ev3 ev4
     subst ev3 ev4;have HTK:=qq (tK_at (i:=i) hp);rw[←HN.out] at HTK;obtain⟨pp2,po,pn,pt⟩:=p;dsimp only at c0 c1 c2 c3 HTK;have HPK:=qq hp;clear hc hp c1 c2 c3;have hpe:(wrap64 ((IntKind.u64.wrap pp2).tmod (k:Int))==(i:Int))=decide (parOf pp2 k=(i:Int)):=rfl;by_cases hpar:parOf pp2 k=(i:Int)
     · rw[decide_eq_true hpar] at hpe;have HT2:=qq (HTK.out.trans (if_pos hpar));have HCK:=qq (fun W (hb:Below wr.heap.size wr W)=>IH.out W k (below_then HB.out hb) hik hlt);have HPE:Hid (pTree row k=⟨po,pn,pt,tK row (n - (k+1)) k⟩):=qq (by unfold pTree;rw[HPK.out,←HN.out]);rw[HPE.out] at HCK;clear hpar HPE HTK;go_wp2_with fail;clear c0 hpe
       refine reg_startZ (fun w'=>Below w.heap.size w w'∧Blk w' (w.heap.size+1) #[OP,.string ⟨nm.toArray⟩,.bool opt,.slice ao m co]) (fun w'=>Below wr.heap.size wr w') (by kernel_rfl) ⟨bel_drew HB.out,HT.out.drew⟩ (Below.refl _ _).drew (fun x=>x==8) ?_;rintro w1 hHeld hB1;refine takeX (d:=some 43) 0 rfl rfl hHeld (fun w' hS'=>by clear hS';go_simp;(try rfl)) ?_;simp only[puts]
       refine takeX (d:=some 44) 1 rfl rfl hHeld (fun w' hS'=>by have qA:=hS'.2.cell;clear hS';go_simp;(try rfl)) ?_;simp only[puts];refine takeX (d:=some 45) 2 rfl rfl hHeld (fun w' hS'=>by clear hS';go_simp;(try rfl)) ?_;simp only[puts];refine takeX (d:=some 46) 3 rfl rfl hHeld (fun w' hS'=>by clear hS';go_simp;(try rfl)) ?_;simp only[puts]
       refine call_Z (d:=some 47) 4 7 _ _ [.slice (some ⟨b,o,none⟩) n cv,.int .i64 (k:Int)] rfl rfl rfl (enters_of Tryd.func7 (by kernel_rfl) rfl) (by rfl) (by rfl) ?_;refine(HCK.out w1 hB1).mono ?_;rintro e w2 ⟨a2,c2',rfl,hkc,hb2⟩;have hB2:=below_then hB1 hb2
       replace hHeld:Below w.heap.size w w2∧Blk w2 (w.heap.size+1) #[OP,.string ⟨nm.toArray⟩,.bool opt,.slice ao m co]:=⟨below_then hHeld.1 hb2,hHeld.2.below hb2⟩
       refine⟨_,rfl,.inr hHeld,?_⟩;unfold exA;simp only[puts];dsimp only at hkc;have HB1z:=hB1.size;have HKC2:=qq hkc;have HW2:=qq (⟨rfl,hB2⟩:w2=w2∧Below wr.heap.size wr w2);have hB3:Below wr.heap.size wr (w2.alloc (.cells #[po,.string ⟨pn.toArray⟩,.bool pt,.slice a2 (tK row (n - (k+1)) k).len c2'] 32)):=bel_alloc hB2 _
       refine new_X (d:=some 48) 5 (.slice (some ⟨w2.heap.size,0,none⟩) 1 1) #[.int .i64 po,.string ⟨pn.toArray⟩,.bool pt,.slice a2 (tK row (n - (k+1)) k).len c2'] 32 rfl rfl (by go_simp) ⟨bel_alloc hHeld.1 _,hHeld.2.alloc _⟩ ?_;intro hHeld kF;simp only[puts];have HO3:=qq (HO.out.below hB3);have HT3:=qq hHeld.2;have HP3:=qq (hp_be HP.out hB3);have HO2:=qq (HO.out.below HW2.out.2)
       obtain⟨hacl,xs2,hrow2,hkl2⟩:=HO2.out;have h2z:=HW2.out.2.size
       refine app_X (d:=some 49) 6 rfl rfl rfl (.tmp 44) (.tmp 48) 30 rfl (w.heap.size+1+1) 32 i0 (.agg #[.int .i64 0,.string ⟨#[]⟩,.bool false,.slice none 0 0]) 4 56 Tryd.underlying30 ei ez es eb rfl (by decide) (.slice ao m co) m xs2 (by rfl) (row_al hrow2 _) ⟨w2.heap.size,0,none⟩ 1 1 (exL' ⟨po,pn,pt,tK row (n - (k+1)) k⟩ a2 c2') (by rfl) rfl (lit_cells kF) (by intro u hu;simp at hu;rcases hu with rfl | rfl | rfl | rfl<;>rfl) (by unfold maxLen;omega) (by omega) (by simp;omega) ?_
       intro v4 w5 hown hgrow hat;have HK4:=qq (KidsIn.more (e:=⟨po,pn,pt,tK row (n - (k+1)) k⟩) (B1:=w1.heap.size) hacl hrow2 hkl2 HKC2.out (by omega) (fun q hq=>by have:=(HO.out.lt q hq).2;omega) rfl hown hgrow hat);obtain⟨a4,c4,rfl⟩:=HK4.out.slice;have hgz:=hgrow.size;have hch:=fun q hq hne=>hgrow.block q hq hne
       have hgz':=hgz;simp only[World.size_alloc] at hgz' hch;have hBw5:Below w.heap.size w w5:=hHeld.1.grown hgrow (by simp;omega) (fun q hq=>by have:=(HO.out.lt q hq).1;omega);clear hown hgrow hat hrow2 hkl2 hacl;have HT5:=qq (Blk.same (HT3.out) hgz (hch _ (by omega) (fun hq=>by have:=(HO3.out.lt _ hq.symm).1;omega)))
       have HP5:Hid (w5.heap[w.heap.size]? =some (.cells exZ 32 (0,0))):=qq ((hch _ (by omega) (fun hq=>by have:=(HO3.out.lt _ hq.symm).1;omega)).trans HP3.out);replace hHeld:Below w.heap.size w w5∧Blk w5 (w.heap.size+1) #[OP,.string ⟨nm.toArray⟩,.bool opt,.slice ao m co]:=⟨hBw5,HT5.out⟩
       refine⟨.inr hHeld,?_⟩;simp only[puts];refine takeX (d:=some 50) 7 rfl rfl hHeld (fun w' hS'=>by clear hS';go_simp;(try rfl)) ?_;simp only[puts];refine set_X 8 (w5.setCell ⟨w.heap.size+1,3,none⟩ (.slice a4 (m+1) c4)) rfl rfl (by have qA:=HT5.out.cell;have fA:=HT5.out.free;clear hHeld;go_simp) (.inl rfl) ?_;refine doneX (by kernel_rfl) ?_ _
       have HTF:Hid (Blk (w5.setCell ⟨w.heap.size+1,3,none⟩ (.slice a4 (m+1) c4)) (w.heap.size+1) #[.int .i64 OP,.string ⟨nm.toArray⟩,.bool opt,.slice a4 (m+1) c4]):=qq (by
         have:=HT5.out.set' 3 (by simp) (.slice a4 (m+1) c4);simpa using this)
       have HPF:=qq (hp_st HP5.out (p:=⟨w.heap.size+1,3,none⟩) (by dsimp only;omega) (.slice a4 (m+1) c4));have HKF:=qq (HK4.out.set (p:=⟨w.heap.size+1,3,none⟩) (by dsimp only;omega) (.slice a4 (m+1) c4));have HBF:=qq (bel_set hBw5 (p:=⟨w.heap.size+1,3,none⟩) (by dsimp only;omega) (.slice a4 (m+1) c4))
       have HAF:Hid ((acc.snoc ⟨po,pn,pt,tK row (n - (k+1)) k⟩).app (tK row (n - (k+1)) i)=tK row (n - (i+1)) i):=qq (by rw[←PF.app_cons,←HT2.out,HAC.out]);clear hHeld hB1 hB2 hB3 hBw5 hch hgz hgz';generalize w5.setCell ⟨w.heap.size+1,3,none⟩ (.slice a4 (m+1) c4)=w6 at*;go_wp2_with fail;go_roundw
       case rel=>exact⟨k+1,m+1,_,a4,c4,by omega,by omega,by omega,by go_num,HAF,HKF,HTF,HPF,HBF⟩
       case measure=>simp[intOf];omega
     · rw[decide_eq_false hpar] at hpe;have HT2:=qq (HTK.out.trans (if_neg hpar));have HAF:Hid (acc.app (tK row (n - (k+1)) i)=tK row (n - (i+1)) i):=qq (by rw[←HT2.out,HAC.out]);clear hpar;go_wp2_with fail;go_roundw
       case rel=>exact⟨k+1,m,acc,ao,co,by omega,by omega,by omega,by go_num,HAF,HO,HT,HP,HB⟩
       case measure=>simp[intOf];omega
   · obtain rfl:n=k:=by omega
     have HAE:Hid (acc=tK row (n - (i+1)) i):=qq (by have:=HAC.out;rw[Nat.sub_self] at this;rw[←this];exact(PF.app_nil acc).symm);have HML:Hid (m=(tK row (n - (i+1)) i).len):=qq (by rw[←HAE.out];exact HO.out.1);have HKC2:Hid (KC (w.heap.size+1+1) wr.heap.size wr (tK row (n - (i+1)) i) ao):=qq (by have:=HO.out.kc (Nat.le_refl _);rwa[HAE.out] at this);obtain⟨lt,qt,ft⟩:=HT.out
     go_wp2_with (refine row_go 32 (.tmp 4) (.tmp 51) rfl rfl w.heap.size #[.int .i64 OP,.string ⟨nm.toArray⟩,.bool opt,.slice ao m co] exZ 32 HP.out rfl rfl (by kernel_rfl) rfl (by simp[Value.oneCell']) ?_);intro w5 hb5 hg5;have hz5:=hg5.size
     have HF:=qq (HRES.out ao co m w5 HML.out (HKC2.out.keep (by omega) hz5 (fun k hk1 hk2=>hg5.block k hk2 (fun e=>by injection e with e;omega))) (bel_gr HB.out hg5 (by omega)));clear qt ft;obtain⟨l5,q5,f5⟩:=hb5;go_wp2_with fail;exact bodyPost_ret (v:=.agg #[OP,.string ⟨nm.toArray⟩,.bool opt,.slice ao m co]) (by simp[results,Tryd.results7,go_sem,q5,f5]) rfl HF.out
end Go.Proofs.YtbepkpjcjpmpmaaDoor
