/- MtD -/
import Derived.Test.YtbepkpjcjpmpmaaGreatDoorCPolYToMtC
import Derived.Test.YtbepkpjcjpmpmaaGreatDoorADnD
import Derived.Test.YtbepkpjcjpmpmaaGreatDoorAPolQToPolF2
set_option linter.unusedSimpArgs false
set_option linter.unusedVariables false
set_option maxRecDepth 100000
set_option maxHeartbeats 16000000
namespace Go.Proofs.YtbepkpjcjpmpmaaGreatDoor
open Go.RowKit Go.Shelf
def NamesV (w:World) (v:Value) (s:PAlt):Prop:=∃a c,v=.slice a s.length c∧(a=none→s=[]∧c=0)∧∀i x,s[i]? =some x→∃b o,a=some ⟨b,o,none⟩∧b<w.heap.size∧w.cell? ⟨b,o+i,none⟩=some (encStr x)
theorem NamesV.below {w w':World} {v:Value} {s:PAlt} (h:NamesV w v s) (hb:Below w.heap.size w w'):NamesV w' v s:=by
 obtain⟨a,c,rfl,h0,h1⟩:=h;refine⟨a,c,rfl,h0,fun i x hx=> ?_⟩;obtain⟨b,o,e,hl,hc⟩:=h1 i x hx;exact⟨b,o,e,Nat.lt_of_lt_of_le hl hb.size,(hb.cell (p:=⟨b,_,none⟩) hl).trans hc⟩
theorem wpList_append_names {w : World} {ops : Array Oper} {rest : List Oper} {o : Oper} {a : Act} {Q : Exit → Act → World → Prop} (hgd : o.guard = none) (s x : Operand) (t : TypeId)
    (ho:o.op=.call {callee:=.builtin .append,args:= #[s,x],argTypes:= #[t,t]})
    (base:Nat) (i:TypeInfo) (hi:Tryz.prog.info? 9=some i) (hz:i.zero=some (.string ⟨#[]⟩)) (hsize:i.size=1) (hby:i.bytes=16) (ht:Tryz.prog.underlying t=some (.slice 9))
    (v:Value) (n:Nat) (xs:List Value) (hs:a.eval s=v) (hown:w.ownsRow base 9 1 v n xs)
    (vx:Value) (l:PAlt) (hx:a.eval x=vx) (hn:NamesV w vx l) (h63:n+l.length≤maxLen) (hbytes:(n+l.length)*16≤140737488355328) (hbase:base≤w.heap.size)
    (h:∀v' w',w'.ownsRow base 9 1 v' (n+l.length) (xs ++l.map encStr)→w.grownBy w' v.ownBlock→(v'.ownBlock=v.ownBlock∨v'.ownBlock=some w.heap.size)→wpList Tryz.prog ops Q rest (a.put o.dst v') w'):wpList Tryz.prog ops Q (o::rest) a w:=by
 obtain⟨aa,c,rfl,h0,h1⟩:=hn
 cases aa with
 | none=>
  obtain⟨rfl,rfl⟩:=h0 rfl;refine wpList_append_own_none hgd s x t ho base 9 i 1 ht hi v n xs hs hown hx ?_;exact h v w (by simpa using hown) ⟨rfl,rfl,rfl,Nat.le_refl _,fun _ _ _=>rfl⟩ (.inl rfl)
 | some ad=>
  refine wpList_append_own_at w hgd s x t ho base 9 i (.string ⟨#[]⟩) 1 16 ht hi hz hsize hby rfl (by decide) v n xs hs hown ad l.length c (l.map encStr) hx (by simp) (fun j u hu=> ?_) (enc_one _) h63 hbytes hbase (fun v' w' a1 a2 _ a4=>h v' w' a1 a2 a4);rw[List.getElem?_map] at hu;obtain⟨y,hy,rfl⟩:=Option.map_eq_some_iff.1 hu;obtain⟨b,o2,e,_,hc⟩:=h1 j y hy;injection e with e
  subst e;rw[Addr.add_lit];exact hc
theorem unionN_of (Ba : Nat) (va vb : Value) (sa sb : PAlt) (w : World) (ha : AltV Ba w va sa) (hb : NamesV w vb sb) (hla : sa.length ≤ 400) (hlb : sb.length ≤ 400) :
    Calls Tryz.prog 46 #[va,vb] w (fun e w'=>∃v',e=.returned v'∧AltV w.heap.size w' v' (pSet (sa ++sb))∧Below w.heap.size w w'):=by
 obtain⟨i0,ei,ez,es,eb⟩:=info_parts infoStr;have HCL:=qq (clone_of Ba va sa w ha (by omega));have HB2:=qq (fun W (hW:Below w.heap.size w W)=>hb.below hW);have hone:∀u∈sb.map encStr,u.oneCell'=true:=fun u hu=>by
  obtain⟨x,_,rfl⟩:=List.mem_map.1 hu;rfl
 obtain⟨a2,c2,rfl,_⟩:=hb;obtain⟨a1,c1,rfl⟩:=row_slice ha;obtain⟨na,hna⟩:∃x,x=sa.length:=⟨_,rfl⟩
 obtain⟨nb,hnb⟩:∃x,x=sb.length:=⟨_,rfl⟩
 rw[←hna] at HCL hla⊢;rw[←hnb] at HB2 hlb⊢;have HS:=qq (sortN_ok (sa ++sb));have HNA:=qq hna;have HNB:=qq hnb;clear ha hna hnb;go_enter Tryz.func46,Tryz.ntmps46;go_wp2_with fail;refine HCL.out.mono ?_;rintro e w1 ⟨v1,rfl,ho1,hb1⟩;have HO1:=qq ho1;have HB1:=qq hb1;have HR2:=qq (HB2.out _ hb1);obtain⟨a3,c3,rfl⟩:=row_slice ho1;clear ho1 hb1
 go_wp2_with (at_builtin;refine wpList_append_names rfl _ _ 71 rfl w.heap.size i0 ei ez es eb Tryz.underlying71 _ _ _ rfl HO1.out _ sb rfl HR2.out ?c1 ?c2 ?c3 ?_)
 case c1=>have:=HNA.out;have:=HNB.out;unfold maxLen;omega
 case c2=>have:=HNA.out;have:=HNB.out;omega
 case c3=>exact HB1.out.size
 intro v3 w3 hown hgrow hat;obtain⟨ua,uc,hu⟩:=row_slice hown;subst hu;obtain⟨n3,hn3⟩:∃x,x=sa.length+sb.length:=⟨_,rfl⟩
 rw[←hn3] at hown⊢;have hn3':n3≤1000:=by have:=HNA.out;have:=HNB.out;omega
 have HO:=qq (show w3.ownsRow w.heap.size 9 1 (.slice ua n3 uc) n3 ((sa ++sb).map encStr) from by rw[List.map_append];exact hown);have HB:=qq (HB1.out.grown hgrow HB1.out.size (fun j hj=>(HO1.out.lt j hj).1));clear hown hgrow hat hn3;go_wp2_with fail;refine(nsort_of w.heap.size _ n3 (sa ++sb) w w3 HO.out hn3' HB.out (Nat.le_refl _)).mono ?_;rintro e w4 ⟨rfl,ho4,hb4⟩
 have HO4:=qq ho4;have HB4:=qq hb4;clear ho4 hb4;go_wp2_with fail;refine(compact_of w.heap.size _ n3 (sa ++sb) _ w w4 HO4.out hn3' HS.out.2 HS.out.1 HB4.out (Nat.le_refl _)).mono ?_;rintro e w5 ⟨v5,rfl,ho5,hb5⟩;have HO5:=qq ho5;obtain⟨a5,c5,rfl⟩:=row_slice ho5;clear ho5;go_wp2_with fail;go_ret;exact⟨_,rfl,HO5.out,hb5⟩
theorem allowsN_of (e : PE) (a : Option Addr) (c B E : Nat) (vn : Value) (names : PAlt) (ea : Int → Addr) (w : World) (h1 : ExIn B E e a ea w) (hn : NamesV w vn names) (hnl : names.length ≤ 300) :
    Calls Tryz.prog 21 #[.agg (exA e a c),vn] w (AllowEnds e names ea w):=by
 have HN1:=qq (fun W (hW:Below w.heap.size w W)=>normal_of e a c B E ea W (h1.below hW));have HO1:=qq (pNormal_ok e);have HU:=qq (fun W (hW:Below w.heap.size w W)=>unionN_of 0 (.slice none 0 0) vn [] names W (World.ownsRow_nil _ _ _ _) (hn.below hW) (by simp) (by omega))
 have HRES:Hid (∀(r:Bool) w',(decide ((pNormal e).2=0) && (pNormal e).1.any fun x=>decide (x=pSet names))=r→Below w.heap.size w w'→AllowEnds e names ea w (.returned (.tuple #[.bool r,errOf ea (pNormal e).2])) w'):=qq (fun r w' h1 h2=>⟨by rw[h1],h2⟩);generalize AllowEnds e names ea w=R at HRES⊢;generalize pNormal e=r1 at*;obtain⟨l1,n1⟩:=r1;obtain⟨o1,nm1,b1,k1⟩:=e;obtain⟨an,cn,rfl,hn0⟩:=hn
 have hps:=pSet_len names;unfold exA at*;dsimp only at*;clear h1;have HB0:Hid (Below w.heap.size w (w.alloc (.cells #[o1,.string ⟨nm1.toArray⟩,.bool b1,.slice a k1.len c] 27))):=qq (by go_grown);by_cases hn1:n1=0
 case neg=>
  have he:errOf ea n1=errV (ea n1):=if_neg hn1;have HF:=qq (fun w'=>HRES.out false w' (by rw[decide_eq_false hn1];rfl));rw[he] at HF;generalize names.length=nn at*;clear hn0;go_enter Tryz.func21,Tryz.ntmps21;go_wp2_with fail;refine(HN1.out _ HB0.out).mono ?_;rintro e w1 ⟨v1,rfl,hv1,hb1⟩;dsimp only at hv1⊢;rw[he];have HFF:=qq (HF.out w1 (below_then HB0.out hb1));obtain⟨a1,c1,rfl⟩:=hv1.row
  clear hv1 hb1 he;go_wp2_with fail
  (try go_ret)
  exact HFF.out
 subst hn1;have he0:errOf ea 0=.nilIface:=rfl;obtain⟨r,hr⟩:∃r,r=l1.any fun x=>decide (x=pSet names):=⟨_,rfl⟩
 have HF:=qq (fun w'=>HRES.out r w' (by rw[hr];simp));rw[he0] at HF;have HRR:=qq hr;clear hr hn0;generalize hnn:names.length=nn at*;clear hnn;go_enter Tryz.func21,Tryz.ntmps21;go_wp2_with fail;refine(HN1.out _ HB0.out).mono ?_;rintro e w1 ⟨v1,rfl,hv1,hb1⟩;dsimp only at hv1⊢;rw[he0];have HB1:=qq (below_then HB0.out hb1);have HV1:=qq hv1;obtain⟨a1,c1,rfl⟩:=hv1.row;clear hv1 hb1 he0;go_wp2_with fail
 refine(HU.out _ HB1.out).mono ?_;rintro e w2 ⟨v2,rfl,hv2,hb2⟩;have hv2':AltV w1.heap.size w2 v2 (pSet names):=hv2;obtain⟨a2,c2,rfl⟩:=row_slice hv2';have HB2:=qq (below_then HB1.out hb2);have HHS:=qq (has29_of _ _ a2 c2 _ l1 (pSet names) w2 (HV1.out.below hb2) (by have:=HO1.out.1;omega) (fun x hx=>by have:=HO1.out.2 x hx;omega) hv2' (by omega));rw[←HRR.out] at HHS
 generalize(pSet names).length=np at*;generalize l1.length=m1 at*;clear hv2 hb2 hv2';go_wp2_with fail;refine HHS.out.mono ?_;rintro e w3 ⟨rfl,hb3⟩;have HFF:=qq (HF.out w3 (below_then HB2.out hb3));clear hb3;go_wp2_with fail
 (try go_ret)
 exact HFF.out
theorem setN_of (vl : Value) (l : PAlt) (w : World) (hl : NamesV w vl l) (hn : l.length ≤ 1000) :
    Calls Tryz.prog 23 #[vl] w (SetEnds l w):=by
 obtain⟨i0,ei,ez,es,eb⟩:=info_parts infoStr;have HL:=qq (fun W (hW:Below w.heap.size w W)=>hl.below hW);obtain⟨al,cl,rfl,hl0,hl1⟩:=hl;obtain⟨n,hnn⟩:∃n,n=l.length:=⟨_,rfl⟩
 have HN:=qq hnn;rw[←hnn] at hn⊢;have HRES:Hid (∀v w',AltV w.heap.size w' v (pSet l)→Below w.heap.size w w'→SetEnds l w (.returned v) w'):=qq (fun v w' h1 h2=>⟨v,rfl,h1,h2⟩);generalize SetEnds l w=R at HRES⊢;clear hl0 hl1 hnn;go_enter Tryz.func23,Tryz.ntmps23;go_wp2_with fail
 go_loopw [3,10] (fun ov cc wr=>∃(i m g c:Nat) (o:PAlt),i≤n∧m≤i∧ov=.slice (some ⟨g,0,none⟩) m c∧cc=.int .i64 (i:Int)∧Hid (o=pSet (l.take i))∧Hid (NmRow w.heap.size wr g m c o)∧Hid (Below w.heap.size w wr)) (fun _ cc _=>n - (intOf cc).toNat)
 case atStart=>exact⟨0,0,w.heap.size,0,[],by omega,by omega,by first | rfl | exact True.intro,by first | rfl | go_num,qq rfl,qq ⟨rfl,own_emptyB w w.heap.size _ _ (Nat.le_refl _)⟩,qq ((Below.refl _ _).alloc (Nat.le_refl _) _)⟩
 case round=>
  obtain⟨i,m,g,c,o,hi,hmi,rfl,rfl,HO,HR,HB⟩:=hrel;obtain⟨W,rfl⟩:∃W,W=wr:=⟨_,rfl⟩
  have hi0:(0:Int)≤(i:Int):=by omega
  by_cases hlt:i<n
  · have hi1:(i:Int)<(n:Int):=by omega
    obtain⟨s,hs⟩:∃s,l[i]? =some s:=⟨_,List.getElem?_eq_getElem (by rw[←HN.out];exact hlt)⟩
    obtain⟨_,_,ev,_,hcl⟩:=HL.out _ HB.out;injection ev with ev1 evn ev2
    clear evn;subst ev1 ev2;obtain⟨gl,ogl,rfl,lS,cS⟩:=hcl i s hs;have HO2:Hid (pSet (l.take (i+1))=ins ltN s o):=qq (by rw[take_snoc hs,HO.out];exact uni_snoc _ _ _);clear hcl hs hlt;have hWz:=HB.out.size;obtain⟨hmc,hgW,hgB⟩:=HR.out.cap;go_wp2_with fail;go_loopw [6] (fun kk wr=>wr=W∧∃k:Nat,k≤m∧kk=.int .i64 (k:Int)∧Hid (∀(j:Nat) x,j<k→o[j]? =some x→ltN x s=true)) (fun kk _=>m - (intOf kk).toNat)
    case atStart=>exact⟨by first | rfl | exact True.intro,0,by omega,by first | rfl | go_num,qq (fun j x h=>by omega)⟩
    case round=>
     obtain⟨hwr,k,hk,rfl,HK⟩:=hrel;have hwr2:=hwr.symm;clear hwr;subst hwr2;have hk0:(0:Int)≤(k:Int):=by omega
     by_cases hkm:k<m
     · have hk1:(k:Int)<(m:Int):=by omega
       obtain⟨x,hx⟩:∃x,o[k]? =some x:=⟨_,List.getElem?_eq_getElem (by rw[←HR.out.1];exact hkm)⟩
       have cX:=HR.out.cell hx;have HX:=qq hx;have HLS:=qq (less_lt x s);clear hx
       cases hxs:ltN x s with
       | true=>
        have qLS:=HLS.out.trans hxs;have HK2:Hid (∀(j:Nat) y,j<k+1→o[j]? =some y→ltN y s=true):=qq (fun j y hj hy=>by
          rcases Nat.lt_or_ge j k with h | h
          · exact HK.out j y h hy
          · obtain rfl:j=k:=by omega
            rw[HX.out] at hy;injection hy with hy
            rw[←hy];exact hxs)
        clear hxs;go_wp2_with fail;go_roundw
        case rel=>exact⟨by first | rfl | exact True.intro,k+1,by omega,by go_num,HK2⟩
        case measure=>simp[intOf];omega
       | false=>
        have qLS:=HLS.out.trans hxs;by_cases hxe:x=s
        · have HIN:Hid (pSet (l.take (i+1))=o):=qq (by rw[HO2.out];exact ins_there toN s o k HK.out (by rw[HX.out,hxe]));subst hxe;clear hxs;go_wp2_with fail;go_roundw
          case rel=>exact⟨i+1,m,g,c,o,by omega,by omega,by first | rfl | exact True.intro,by go_num,qq HIN.out.symm,HR,HB⟩
          case measure=>simp[intOf];omega
        · have HIN:Hid (pSet (l.take (i+1))=o.take k ++ [s] ++o.drop k):=qq (by rw[HO2.out];exact ins_here toN s o k HK.out (by rw[←HR.out.1];omega) (fun y hy=>by rw[HX.out] at hy;injection hy with hy;subst hy;exact⟨hxs,hxe⟩));have qNE:(x==s)=false:=by simpa using hxe
          clear hxs hxe;go_wp2_with fail;clear cX qLS qNE;clear cS;refine reg_startZ (fun w'=>Below w.heap.size w w') (fun w'=>Below W.heap.size W w') (by kernel_rfl) (bel_drew HB.out) (Below.refl _ _).drew (fun _=>false) ?_;rintro w1 hHeld hB1;have hkm2:(k:Int)≤(m:Int):=by omega
          have hkc:(k:Int)≤(c:Int):=by omega
          have hmc2:(m:Int)≤(c:Int):=by omega
          refine takeX (d:=some 41) 1 rfl rfl hHeld (fun w' hS'=>by clear hS';go_simp;(try rfl)) ?_;simp only[puts];refine takeX (d:=some 42) 2 rfl rfl hHeld (fun w' hS'=>by clear hS';go_simp;(try rfl)) ?_;simp only[puts];refine takeX (d:=some 43) 3 rfl rfl hHeld (fun w' hS'=>by clear hS';go_simp;(try rfl)) ?_;simp only[puts]
          refine takeX (d:=some 45) 5 rfl rfl hHeld (fun w' hS'=>by clear hS';go_simp;(try rfl)) ?_;simp only[puts];refine takeX (d:=some 48) 8 rfl rfl hHeld (fun w' hS'=>by clear hS';go_simp;(try rfl)) ?_;simp only[puts];refine takeX (d:=some 49) 9 rfl rfl hHeld (fun w' hS'=>by clear hS';go_simp;(try rfl)) ?_;simp only[puts]
          refine takeX (d:=some 50) 10 rfl rfl hHeld (fun w' hS'=>by clear hS';go_simp;(try rfl)) ?_;simp only[puts];obtain⟨ad,hAD,hCD⟩:=HR.out.drop_cells hk;rw[hAD];have hTC:=HR.out.take_cells k;have HCD:=qq hCD;have HTC:=qq hTC;have hol:m=o.length:=HR.out.1;have htl:((o.take k).map encStr).length=k*1:=by simp;omega
          have hdl:((o.drop k).map encStr).length=(m - k)*1:=by simp;omega
          have HTL:=qq htl;have HDL:=qq hdl;clear hAD hCD hTC htl hdl hol;have hB1z:=hB1.size;refine two_X 0 6 (by kernel_rfl) ?_ ?_
          · refine new_O (d:=some 40) 0 (.slice (some ⟨w1.heap.size,0,none⟩) 0 0) #[] 9 rfl rfl (by go_simp) (bel_alloc hHeld _) (fun hHeld=> ?_);simp only[puts];have hBu:Below W.heap.size W (w1.alloc (.cells #[] 9)):=hB1.alloc hB1.size _;have hR0:=own_emptyB w1 W.heap.size 9 1 hB1.size;refine two_X 4 6 (by kernel_rfl) ?_ ?_
            · refine app_O (d:=some 44) 4 rfl rfl rfl (.tmp 40) (.tmp 43) 49 rfl W.heap.size 9 i0 (.string ⟨#[]⟩) 1 16 Tryz.underlying49 ei ez es eb rfl (by decide) (.slice (some ⟨w1.heap.size,0,none⟩) 0 0) 0 [] (by rfl) hR0 ⟨g,0,none⟩ k c ((o.take k).map encStr) (by rfl) HTL.out (HTC.out _ hBu) (enc_one _) (by unfold maxLen;omega) (by omega) (by have h9:=hBu.size;exact h9) ?_
              intro vw4 w4 hownw4 hgrow hat;have hOw4:=fun q hq=>(hR0.lt q hq).1
              have hBw4:Below W.heap.size W w4:=hBu.grown hgrow hBu.size (fun q hq=>hOw4 q hq);replace hHeld:Below w.heap.size w w4:=below_then HB.out hBw4;clear hgrow hat hOw4;refine⟨.inr hHeld,?_⟩;simp only[puts];refine new_X (d:=some 46) 6 (.slice (some ⟨w4.heap.size,0,none⟩) 1 1) #[encStr s] 9 rfl rfl (by go_simp) (bel_alloc hHeld _) (fun hHeld _=> ?_);simp only[puts]
              have hba:Below w4.heap.size w4 (w4.alloc (.cells #[encStr s] 9)):=(Below.refl _ _).alloc (Nat.le_refl _) _;have hB5:=below_then hBw4 hba;have hP5:=Blk.fresh w4 #[encStr s] 9 _ rfl;have hR5:(w4.alloc (.cells #[encStr s] 9)).ownsRow W.heap.size 9 1 vw4 k ((o.take k).map encStr):=row_be (by simpa using hownw4) hba;clear hR0 hBu hownw4 hba
              refine app_X (d:=some 47) 7 rfl rfl rfl (.tmp 44) (.tmp 46) 49 rfl W.heap.size 9 i0 (.string ⟨#[]⟩) 1 16 Tryz.underlying49 ei ez es eb rfl (by decide) vw4 k ((o.take k).map encStr) (by rfl) hR5 ⟨w4.heap.size,0,none⟩ 1 1 [encStr s] (by rfl) rfl (lit_cells hP5) (by intro u hu;obtain rfl:=List.mem_singleton.1 hu;rfl) (by unfold maxLen;omega) (by omega) (by have h9:=hB5.size;exact h9) ?_
              intro vw7 w7 hownw7 hgrow hat;have hOw7:=fun q hq=>(hR5.lt q hq).1
              have hBw7:Below W.heap.size W w7:=hB5.grown hgrow hB5.size (fun q hq=>hOw7 q hq);replace hHeld:Below w.heap.size w w7:=below_then HB.out hBw7;clear hgrow hat hOw7;refine⟨.inr hHeld,?_⟩;simp only[puts]
              refine app_X (d:=some 51) 11 rfl rfl rfl (.tmp 47) (.tmp 50) 49 rfl W.heap.size 9 i0 (.string ⟨#[]⟩) 1 16 Tryz.underlying49 ei ez es eb rfl (by decide) vw7 (k+1) ((o.take k).map encStr ++ [encStr s]) (by rfl) hownw7 ad (m - k) (c - k) ((o.drop k).map encStr) (by rfl) HDL.out (HCD.out w7 hBw7) (enc_one _) (by unfold maxLen;omega) (by omega) (by have h9:=hBw7.size;exact h9) ?_
              intro vw8 w8 hownw8 hgrow hat;have hOw8:=fun q hq=>(hownw7.lt q hq).1
              have hBw8:Below W.heap.size W w8:=hBw7.grown hgrow hBw7.size (fun q hq=>hOw8 q hq);replace hHeld:Below w.heap.size w w8:=below_then HB.out hBw8;clear hgrow hat hOw8;refine⟨.inr hHeld,?_⟩;simp only[puts];refine takeX (d:=some 3) 12 rfl rfl hHeld (fun w' hS'=>by clear hS';go_simp;(try rfl)) ?_;simp only[puts];refine doneX (by kernel_rfl) ?_ _
              obtain⟨g2,c2,hv8⟩:∃g2 c2,vw8=.slice (some ⟨g2,0,none⟩) (k+1+(m - k)) c2:=by
               rcases hownw8.2 with⟨_,hm0⟩ | ⟨g2,cap,cur,hv,_⟩
               · omega
               · exact⟨g2,cap,hv⟩
              subst hv8;have e1:k+1+(m - k)=m+1:=by omega
              rw[e1] at hownw8⊢;have HR8:Hid (NmRow w.heap.size w8 g2 (m+1) c2 (pSet (l.take (i+1)))):=qq ⟨by rw[HIN.out];simp;have:=HR.out.1;omega,by
                rw[HIN.out,List.map_append,List.map_append];exact row_base hownw8 hWz⟩
              have HB8:=qq hHeld;clear hownw8 hownw7 hBw7 hBw8 hHeld hR5 hP5 hB5 e1;go_wp2_with fail;go_roundw
              case rel=>exact⟨i+1,m+1,g2,c2,_,by omega,by omega,by first | rfl | exact True.intro,by go_num,qq rfl,HR8,HB8⟩
              case measure=>simp[intOf];omega
            · refine new_O (d:=some 46) 6 (.slice (some ⟨(w1.alloc (.cells #[] 9)).heap.size,0,none⟩) 1 1) #[encStr s] 9 rfl rfl (by go_simp) (bel_alloc hHeld _) (fun hHeld=> ?_);simp only[puts];have hba:Below (w1.alloc (.cells #[] 9)).heap.size (w1.alloc (.cells #[] 9)) ((w1.alloc (.cells #[] 9)).alloc (.cells #[encStr s] 9)):=(Below.refl _ _).alloc (Nat.le_refl _) _;have hR1:=row_be hR0 hba
              have hB2:=below_then hBu hba;have hP2:=Blk.fresh (w1.alloc (.cells #[] 9)) #[encStr s] 9 _ rfl
              refine app_X (d:=some 44) 4 rfl rfl rfl (.tmp 40) (.tmp 43) 49 rfl W.heap.size 9 i0 (.string ⟨#[]⟩) 1 16 Tryz.underlying49 ei ez es eb rfl (by decide) (.slice (some ⟨w1.heap.size,0,none⟩) 0 0) 0 [] (by rfl) hR1 ⟨g,0,none⟩ k c ((o.take k).map encStr) (by rfl) HTL.out (HTC.out _ hB2) (enc_one _) (by unfold maxLen;omega) (by omega) (by have h9:=hB2.size;exact h9) ?_
              intro vw4 w4 hownw4 hgrow hat;have hOw4:=fun q hq=>(hR1.lt q hq).1
              have hP5:=Blk.same hP2 hgrow.size (hgrow.block _ (by simp;try omega) (fun e=>by injection e with e;simp at e));have hBw4:Below W.heap.size W w4:=hB2.grown hgrow hB2.size (fun q hq=>hOw4 q hq);replace hHeld:Below w.heap.size w w4:=below_then HB.out hBw4;clear hgrow hat hOw4;refine⟨.inr hHeld,?_⟩;simp only[puts];have hB5:=hBw4
              have hR5:w4.ownsRow W.heap.size 9 1 vw4 k ((o.take k).map encStr):=by simpa using hownw4
              clear hR0 hBu hownw4 hba hR1 hB2 hP2
              refine app_X (d:=some 47) 7 rfl rfl rfl (.tmp 44) (.tmp 46) 49 rfl W.heap.size 9 i0 (.string ⟨#[]⟩) 1 16 Tryz.underlying49 ei ez es eb rfl (by decide) vw4 k ((o.take k).map encStr) (by rfl) hR5 ⟨(w1.alloc (.cells #[] 9)).heap.size,0,none⟩ 1 1 [encStr s] (by rfl) rfl (lit_cells hP5) (by intro u hu;obtain rfl:=List.mem_singleton.1 hu;rfl) (by unfold maxLen;omega) (by omega) (by have h9:=hB5.size;exact h9) ?_
              intro vw7 w7 hownw7 hgrow hat;have hOw7:=fun q hq=>(hR5.lt q hq).1
              have hBw7:Below W.heap.size W w7:=hB5.grown hgrow hB5.size (fun q hq=>hOw7 q hq);replace hHeld:Below w.heap.size w w7:=below_then HB.out hBw7;clear hgrow hat hOw7;refine⟨.inr hHeld,?_⟩;simp only[puts]
              refine app_X (d:=some 51) 11 rfl rfl rfl (.tmp 47) (.tmp 50) 49 rfl W.heap.size 9 i0 (.string ⟨#[]⟩) 1 16 Tryz.underlying49 ei ez es eb rfl (by decide) vw7 (k+1) ((o.take k).map encStr ++ [encStr s]) (by rfl) hownw7 ad (m - k) (c - k) ((o.drop k).map encStr) (by rfl) HDL.out (HCD.out w7 hBw7) (enc_one _) (by unfold maxLen;omega) (by omega) (by have h9:=hBw7.size;exact h9) ?_
              intro vw8 w8 hownw8 hgrow hat;have hOw8:=fun q hq=>(hownw7.lt q hq).1
              have hBw8:Below W.heap.size W w8:=hBw7.grown hgrow hBw7.size (fun q hq=>hOw8 q hq);replace hHeld:Below w.heap.size w w8:=below_then HB.out hBw8;clear hgrow hat hOw8;refine⟨.inr hHeld,?_⟩;simp only[puts];refine takeX (d:=some 3) 12 rfl rfl hHeld (fun w' hS'=>by clear hS';go_simp;(try rfl)) ?_;simp only[puts];refine doneX (by kernel_rfl) ?_ _
              obtain⟨g2,c2,hv8⟩:∃g2 c2,vw8=.slice (some ⟨g2,0,none⟩) (k+1+(m - k)) c2:=by
               rcases hownw8.2 with⟨_,hm0⟩ | ⟨g2,cap,cur,hv,_⟩
               · omega
               · exact⟨g2,cap,hv⟩
              subst hv8;have e1:k+1+(m - k)=m+1:=by omega
              rw[e1] at hownw8⊢;have HR8:Hid (NmRow w.heap.size w8 g2 (m+1) c2 (pSet (l.take (i+1)))):=qq ⟨by rw[HIN.out];simp;have:=HR.out.1;omega,by
                rw[HIN.out,List.map_append,List.map_append];exact row_base hownw8 hWz⟩
              have HB8:=qq hHeld;clear hownw8 hownw7 hBw7 hBw8 hHeld hR5 hP5 hB5 e1;go_wp2_with fail;go_roundw
              case rel=>exact⟨i+1,m+1,g2,c2,_,by omega,by omega,by first | rfl | exact True.intro,by go_num,qq rfl,HR8,HB8⟩
              case measure=>simp[intOf];omega
          · refine new_O (d:=some 46) 6 (.slice (some ⟨w1.heap.size,0,none⟩) 1 1) #[encStr s] 9 rfl rfl (by go_simp) (bel_alloc hHeld _) (fun hHeld=> ?_);simp only[puts];have hba:Below w1.heap.size w1 (w1.alloc (.cells #[encStr s] 9)):=(Below.refl _ _).alloc (Nat.le_refl _) _;have hB2:=below_then hB1 hba;have hP2:=Blk.fresh w1 #[encStr s] 9 _ rfl
            refine new_X (d:=some 40) 0 (.slice (some ⟨(w1.alloc (.cells #[encStr s] 9)).heap.size,0,none⟩) 0 0) #[] 9 rfl rfl (by go_simp) (bel_alloc hHeld _) (fun hHeld _=> ?_);simp only[puts];have hbb:Below (w1.alloc (.cells #[encStr s] 9)).heap.size (w1.alloc (.cells #[encStr s] 9)) ((w1.alloc (.cells #[encStr s] 9)).alloc (.cells #[] 9)):=(Below.refl _ _).alloc (Nat.le_refl _) _
            have hR1:=own_emptyB (w1.alloc (.cells #[encStr s] 9)) W.heap.size 9 1 hB2.size;have hB3:=below_then hB2 hbb;have hP3:=hP2.below hbb
            refine app_X (d:=some 44) 4 rfl rfl rfl (.tmp 40) (.tmp 43) 49 rfl W.heap.size 9 i0 (.string ⟨#[]⟩) 1 16 Tryz.underlying49 ei ez es eb rfl (by decide) (.slice (some ⟨(w1.alloc (.cells #[encStr s] 9)).heap.size,0,none⟩) 0 0) 0 [] (by rfl) hR1 ⟨g,0,none⟩ k c ((o.take k).map encStr) (by rfl) HTL.out (HTC.out _ hB3) (enc_one _) (by unfold maxLen;omega) (by omega) (by have h9:=hB3.size;exact h9) ?_
            intro vw4 w4 hownw4 hgrow hat;have hOw4:=fun q hq=>(hR1.lt q hq).1
            have hP5:=Blk.same hP3 hgrow.size (hgrow.block _ (by simp;try omega) (fun e=>by injection e with e;simp at e));have hBw4:Below W.heap.size W w4:=hB3.grown hgrow hB3.size (fun q hq=>hOw4 q hq);replace hHeld:Below w.heap.size w w4:=below_then HB.out hBw4;clear hgrow hat hOw4;refine⟨.inr hHeld,?_⟩;simp only[puts];have hB5:=hBw4
            have hR5:w4.ownsRow W.heap.size 9 1 vw4 k ((o.take k).map encStr):=by simpa using hownw4
            clear hownw4 hba hR1 hB2 hP2 hB3 hP3 hbb
            refine app_X (d:=some 47) 7 rfl rfl rfl (.tmp 44) (.tmp 46) 49 rfl W.heap.size 9 i0 (.string ⟨#[]⟩) 1 16 Tryz.underlying49 ei ez es eb rfl (by decide) vw4 k ((o.take k).map encStr) (by rfl) hR5 ⟨w1.heap.size,0,none⟩ 1 1 [encStr s] (by rfl) rfl (lit_cells hP5) (by intro u hu;obtain rfl:=List.mem_singleton.1 hu;rfl) (by unfold maxLen;omega) (by omega) (by have h9:=hB5.size;exact h9) ?_
            intro vw7 w7 hownw7 hgrow hat;have hOw7:=fun q hq=>(hR5.lt q hq).1
            have hBw7:Below W.heap.size W w7:=hB5.grown hgrow hB5.size (fun q hq=>hOw7 q hq);replace hHeld:Below w.heap.size w w7:=below_then HB.out hBw7;clear hgrow hat hOw7;refine⟨.inr hHeld,?_⟩;simp only[puts]
            refine app_X (d:=some 51) 11 rfl rfl rfl (.tmp 47) (.tmp 50) 49 rfl W.heap.size 9 i0 (.string ⟨#[]⟩) 1 16 Tryz.underlying49 ei ez es eb rfl (by decide) vw7 (k+1) ((o.take k).map encStr ++ [encStr s]) (by rfl) hownw7 ad (m - k) (c - k) ((o.drop k).map encStr) (by rfl) HDL.out (HCD.out w7 hBw7) (enc_one _) (by unfold maxLen;omega) (by omega) (by have h9:=hBw7.size;exact h9) ?_
            intro vw8 w8 hownw8 hgrow hat;have hOw8:=fun q hq=>(hownw7.lt q hq).1
            have hBw8:Below W.heap.size W w8:=hBw7.grown hgrow hBw7.size (fun q hq=>hOw8 q hq);replace hHeld:Below w.heap.size w w8:=below_then HB.out hBw8;clear hgrow hat hOw8;refine⟨.inr hHeld,?_⟩;simp only[puts];refine takeX (d:=some 3) 12 rfl rfl hHeld (fun w' hS'=>by clear hS';go_simp;(try rfl)) ?_;simp only[puts];refine doneX (by kernel_rfl) ?_ _
            obtain⟨g2,c2,hv8⟩:∃g2 c2,vw8=.slice (some ⟨g2,0,none⟩) (k+1+(m - k)) c2:=by
             rcases hownw8.2 with⟨_,hm0⟩ | ⟨g2,cap,cur,hv,_⟩
             · omega
             · exact⟨g2,cap,hv⟩
            subst hv8;have e1:k+1+(m - k)=m+1:=by omega
            rw[e1] at hownw8⊢;have HR8:Hid (NmRow w.heap.size w8 g2 (m+1) c2 (pSet (l.take (i+1)))):=qq ⟨by rw[HIN.out];simp;have:=HR.out.1;omega,by
              rw[HIN.out,List.map_append,List.map_append];exact row_base hownw8 hWz⟩
            have HB8:=qq hHeld;clear hownw8 hownw7 hBw7 hBw8 hHeld hR5 hP5 hB5 e1;go_wp2_with fail;go_roundw
            case rel=>exact⟨i+1,m+1,g2,c2,_,by omega,by omega,by first | rfl | exact True.intro,by go_num,qq rfl,HR8,HB8⟩
            case measure=>simp[intOf];omega
     · have HIN:Hid (pSet (l.take (i+1))=o.take k ++ [s] ++o.drop k):=qq (by rw[HO2.out];exact ins_here toN s o k HK.out (by rw[←HR.out.1];omega) (fun y hy=>by have:=(List.getElem?_eq_some_iff.1 hy).1;rw[←HR.out.1] at this;omega));have hk1:¬(k:Int)<(m:Int):=by omega
       go_wp2_with fail;clear cS;refine reg_startZ (fun w'=>Below w.heap.size w w') (fun w'=>Below W.heap.size W w') (by kernel_rfl) (bel_drew HB.out) (Below.refl _ _).drew (fun _=>false) ?_;rintro w1 hHeld hB1;have hkm2:(k:Int)≤(m:Int):=by omega
       have hkc:(k:Int)≤(c:Int):=by omega
       have hmc2:(m:Int)≤(c:Int):=by omega
       refine takeX (d:=some 41) 1 rfl rfl hHeld (fun w' hS'=>by clear hS';go_simp;(try rfl)) ?_;simp only[puts];refine takeX (d:=some 42) 2 rfl rfl hHeld (fun w' hS'=>by clear hS';go_simp;(try rfl)) ?_;simp only[puts];refine takeX (d:=some 43) 3 rfl rfl hHeld (fun w' hS'=>by clear hS';go_simp;(try rfl)) ?_;simp only[puts]
       refine takeX (d:=some 45) 5 rfl rfl hHeld (fun w' hS'=>by clear hS';go_simp;(try rfl)) ?_;simp only[puts];refine takeX (d:=some 48) 8 rfl rfl hHeld (fun w' hS'=>by clear hS';go_simp;(try rfl)) ?_;simp only[puts];refine takeX (d:=some 49) 9 rfl rfl hHeld (fun w' hS'=>by clear hS';go_simp;(try rfl)) ?_;simp only[puts]
       refine takeX (d:=some 50) 10 rfl rfl hHeld (fun w' hS'=>by clear hS';go_simp;(try rfl)) ?_;simp only[puts];obtain⟨ad,hAD,hCD⟩:=HR.out.drop_cells hk;rw[hAD];have hTC:=HR.out.take_cells k;have HCD:=qq hCD;have HTC:=qq hTC;have hol:m=o.length:=HR.out.1;have htl:((o.take k).map encStr).length=k*1:=by simp;omega
       have hdl:((o.drop k).map encStr).length=(m - k)*1:=by simp;omega
       have HTL:=qq htl;have HDL:=qq hdl;clear hAD hCD hTC htl hdl hol;have hB1z:=hB1.size;refine two_X 0 6 (by kernel_rfl) ?_ ?_
       · refine new_O (d:=some 40) 0 (.slice (some ⟨w1.heap.size,0,none⟩) 0 0) #[] 9 rfl rfl (by go_simp) (bel_alloc hHeld _) (fun hHeld=> ?_);simp only[puts];have hBu:Below W.heap.size W (w1.alloc (.cells #[] 9)):=hB1.alloc hB1.size _;have hR0:=own_emptyB w1 W.heap.size 9 1 hB1.size;refine two_X 4 6 (by kernel_rfl) ?_ ?_
         · refine app_O (d:=some 44) 4 rfl rfl rfl (.tmp 40) (.tmp 43) 49 rfl W.heap.size 9 i0 (.string ⟨#[]⟩) 1 16 Tryz.underlying49 ei ez es eb rfl (by decide) (.slice (some ⟨w1.heap.size,0,none⟩) 0 0) 0 [] (by rfl) hR0 ⟨g,0,none⟩ k c ((o.take k).map encStr) (by rfl) HTL.out (HTC.out _ hBu) (enc_one _) (by unfold maxLen;omega) (by omega) (by have h9:=hBu.size;exact h9) ?_
           intro vw4 w4 hownw4 hgrow hat;have hOw4:=fun q hq=>(hR0.lt q hq).1
           have hBw4:Below W.heap.size W w4:=hBu.grown hgrow hBu.size (fun q hq=>hOw4 q hq);replace hHeld:Below w.heap.size w w4:=below_then HB.out hBw4;clear hgrow hat hOw4;refine⟨.inr hHeld,?_⟩;simp only[puts];refine new_X (d:=some 46) 6 (.slice (some ⟨w4.heap.size,0,none⟩) 1 1) #[encStr s] 9 rfl rfl (by go_simp) (bel_alloc hHeld _) (fun hHeld _=> ?_);simp only[puts]
           have hba:Below w4.heap.size w4 (w4.alloc (.cells #[encStr s] 9)):=(Below.refl _ _).alloc (Nat.le_refl _) _;have hB5:=below_then hBw4 hba;have hP5:=Blk.fresh w4 #[encStr s] 9 _ rfl;have hR5:(w4.alloc (.cells #[encStr s] 9)).ownsRow W.heap.size 9 1 vw4 k ((o.take k).map encStr):=row_be (by simpa using hownw4) hba;clear hR0 hBu hownw4 hba
           refine app_X (d:=some 47) 7 rfl rfl rfl (.tmp 44) (.tmp 46) 49 rfl W.heap.size 9 i0 (.string ⟨#[]⟩) 1 16 Tryz.underlying49 ei ez es eb rfl (by decide) vw4 k ((o.take k).map encStr) (by rfl) hR5 ⟨w4.heap.size,0,none⟩ 1 1 [encStr s] (by rfl) rfl (lit_cells hP5) (by intro u hu;obtain rfl:=List.mem_singleton.1 hu;rfl) (by unfold maxLen;omega) (by omega) (by have h9:=hB5.size;exact h9) ?_
           intro vw7 w7 hownw7 hgrow hat;have hOw7:=fun q hq=>(hR5.lt q hq).1
           have hBw7:Below W.heap.size W w7:=hB5.grown hgrow hB5.size (fun q hq=>hOw7 q hq);replace hHeld:Below w.heap.size w w7:=below_then HB.out hBw7;clear hgrow hat hOw7;refine⟨.inr hHeld,?_⟩;simp only[puts]
           refine app_X (d:=some 51) 11 rfl rfl rfl (.tmp 47) (.tmp 50) 49 rfl W.heap.size 9 i0 (.string ⟨#[]⟩) 1 16 Tryz.underlying49 ei ez es eb rfl (by decide) vw7 (k+1) ((o.take k).map encStr ++ [encStr s]) (by rfl) hownw7 ad (m - k) (c - k) ((o.drop k).map encStr) (by rfl) HDL.out (HCD.out w7 hBw7) (enc_one _) (by unfold maxLen;omega) (by omega) (by have h9:=hBw7.size;exact h9) ?_
           intro vw8 w8 hownw8 hgrow hat;have hOw8:=fun q hq=>(hownw7.lt q hq).1
           have hBw8:Below W.heap.size W w8:=hBw7.grown hgrow hBw7.size (fun q hq=>hOw8 q hq);replace hHeld:Below w.heap.size w w8:=below_then HB.out hBw8;clear hgrow hat hOw8;refine⟨.inr hHeld,?_⟩;simp only[puts];refine takeX (d:=some 3) 12 rfl rfl hHeld (fun w' hS'=>by clear hS';go_simp;(try rfl)) ?_;simp only[puts];refine doneX (by kernel_rfl) ?_ _
           obtain⟨g2,c2,hv8⟩:∃g2 c2,vw8=.slice (some ⟨g2,0,none⟩) (k+1+(m - k)) c2:=by
            rcases hownw8.2 with⟨_,hm0⟩ | ⟨g2,cap,cur,hv,_⟩
            · omega
            · exact⟨g2,cap,hv⟩
           subst hv8;have e1:k+1+(m - k)=m+1:=by omega
           rw[e1] at hownw8⊢;have HR8:Hid (NmRow w.heap.size w8 g2 (m+1) c2 (pSet (l.take (i+1)))):=qq ⟨by rw[HIN.out];simp;have:=HR.out.1;omega,by
             rw[HIN.out,List.map_append,List.map_append];exact row_base hownw8 hWz⟩
           have HB8:=qq hHeld;clear hownw8 hownw7 hBw7 hBw8 hHeld hR5 hP5 hB5 e1;go_wp2_with fail;go_roundw
           case rel=>exact⟨i+1,m+1,g2,c2,_,by omega,by omega,by first | rfl | exact True.intro,by go_num,qq rfl,HR8,HB8⟩
           case measure=>simp[intOf];omega
         · refine new_O (d:=some 46) 6 (.slice (some ⟨(w1.alloc (.cells #[] 9)).heap.size,0,none⟩) 1 1) #[encStr s] 9 rfl rfl (by go_simp) (bel_alloc hHeld _) (fun hHeld=> ?_);simp only[puts];have hba:Below (w1.alloc (.cells #[] 9)).heap.size (w1.alloc (.cells #[] 9)) ((w1.alloc (.cells #[] 9)).alloc (.cells #[encStr s] 9)):=(Below.refl _ _).alloc (Nat.le_refl _) _;have hR1:=row_be hR0 hba
           have hB2:=below_then hBu hba;have hP2:=Blk.fresh (w1.alloc (.cells #[] 9)) #[encStr s] 9 _ rfl
           refine app_X (d:=some 44) 4 rfl rfl rfl (.tmp 40) (.tmp 43) 49 rfl W.heap.size 9 i0 (.string ⟨#[]⟩) 1 16 Tryz.underlying49 ei ez es eb rfl (by decide) (.slice (some ⟨w1.heap.size,0,none⟩) 0 0) 0 [] (by rfl) hR1 ⟨g,0,none⟩ k c ((o.take k).map encStr) (by rfl) HTL.out (HTC.out _ hB2) (enc_one _) (by unfold maxLen;omega) (by omega) (by have h9:=hB2.size;exact h9) ?_
           intro vw4 w4 hownw4 hgrow hat;have hOw4:=fun q hq=>(hR1.lt q hq).1
           have hP5:=Blk.same hP2 hgrow.size (hgrow.block _ (by simp;try omega) (fun e=>by injection e with e;simp at e));have hBw4:Below W.heap.size W w4:=hB2.grown hgrow hB2.size (fun q hq=>hOw4 q hq);replace hHeld:Below w.heap.size w w4:=below_then HB.out hBw4;clear hgrow hat hOw4;refine⟨.inr hHeld,?_⟩;simp only[puts];have hB5:=hBw4
           have hR5:w4.ownsRow W.heap.size 9 1 vw4 k ((o.take k).map encStr):=by simpa using hownw4
           clear hR0 hBu hownw4 hba hR1 hB2 hP2
           refine app_X (d:=some 47) 7 rfl rfl rfl (.tmp 44) (.tmp 46) 49 rfl W.heap.size 9 i0 (.string ⟨#[]⟩) 1 16 Tryz.underlying49 ei ez es eb rfl (by decide) vw4 k ((o.take k).map encStr) (by rfl) hR5 ⟨(w1.alloc (.cells #[] 9)).heap.size,0,none⟩ 1 1 [encStr s] (by rfl) rfl (lit_cells hP5) (by intro u hu;obtain rfl:=List.mem_singleton.1 hu;rfl) (by unfold maxLen;omega) (by omega) (by have h9:=hB5.size;exact h9) ?_
           intro vw7 w7 hownw7 hgrow hat;have hOw7:=fun q hq=>(hR5.lt q hq).1
           have hBw7:Below W.heap.size W w7:=hB5.grown hgrow hB5.size (fun q hq=>hOw7 q hq);replace hHeld:Below w.heap.size w w7:=below_then HB.out hBw7;clear hgrow hat hOw7;refine⟨.inr hHeld,?_⟩;simp only[puts]
           refine app_X (d:=some 51) 11 rfl rfl rfl (.tmp 47) (.tmp 50) 49 rfl W.heap.size 9 i0 (.string ⟨#[]⟩) 1 16 Tryz.underlying49 ei ez es eb rfl (by decide) vw7 (k+1) ((o.take k).map encStr ++ [encStr s]) (by rfl) hownw7 ad (m - k) (c - k) ((o.drop k).map encStr) (by rfl) HDL.out (HCD.out w7 hBw7) (enc_one _) (by unfold maxLen;omega) (by omega) (by have h9:=hBw7.size;exact h9) ?_
           intro vw8 w8 hownw8 hgrow hat;have hOw8:=fun q hq=>(hownw7.lt q hq).1
           have hBw8:Below W.heap.size W w8:=hBw7.grown hgrow hBw7.size (fun q hq=>hOw8 q hq);replace hHeld:Below w.heap.size w w8:=below_then HB.out hBw8;clear hgrow hat hOw8;refine⟨.inr hHeld,?_⟩;simp only[puts];refine takeX (d:=some 3) 12 rfl rfl hHeld (fun w' hS'=>by clear hS';go_simp;(try rfl)) ?_;simp only[puts];refine doneX (by kernel_rfl) ?_ _
           obtain⟨g2,c2,hv8⟩:∃g2 c2,vw8=.slice (some ⟨g2,0,none⟩) (k+1+(m - k)) c2:=by
            rcases hownw8.2 with⟨_,hm0⟩ | ⟨g2,cap,cur,hv,_⟩
            · omega
            · exact⟨g2,cap,hv⟩
           subst hv8;have e1:k+1+(m - k)=m+1:=by omega
           rw[e1] at hownw8⊢;have HR8:Hid (NmRow w.heap.size w8 g2 (m+1) c2 (pSet (l.take (i+1)))):=qq ⟨by rw[HIN.out];simp;have:=HR.out.1;omega,by
             rw[HIN.out,List.map_append,List.map_append];exact row_base hownw8 hWz⟩
           have HB8:=qq hHeld;clear hownw8 hownw7 hBw7 hBw8 hHeld hR5 hP5 hB5 e1;go_wp2_with fail;go_roundw
           case rel=>exact⟨i+1,m+1,g2,c2,_,by omega,by omega,by first | rfl | exact True.intro,by go_num,qq rfl,HR8,HB8⟩
           case measure=>simp[intOf];omega
       · refine new_O (d:=some 46) 6 (.slice (some ⟨w1.heap.size,0,none⟩) 1 1) #[encStr s] 9 rfl rfl (by go_simp) (bel_alloc hHeld _) (fun hHeld=> ?_);simp only[puts];have hba:Below w1.heap.size w1 (w1.alloc (.cells #[encStr s] 9)):=(Below.refl _ _).alloc (Nat.le_refl _) _;have hB2:=below_then hB1 hba;have hP2:=Blk.fresh w1 #[encStr s] 9 _ rfl
         refine new_X (d:=some 40) 0 (.slice (some ⟨(w1.alloc (.cells #[encStr s] 9)).heap.size,0,none⟩) 0 0) #[] 9 rfl rfl (by go_simp) (bel_alloc hHeld _) (fun hHeld _=> ?_);simp only[puts];have hbb:Below (w1.alloc (.cells #[encStr s] 9)).heap.size (w1.alloc (.cells #[encStr s] 9)) ((w1.alloc (.cells #[encStr s] 9)).alloc (.cells #[] 9)):=(Below.refl _ _).alloc (Nat.le_refl _) _
         have hR1:=own_emptyB (w1.alloc (.cells #[encStr s] 9)) W.heap.size 9 1 hB2.size;have hB3:=below_then hB2 hbb;have hP3:=hP2.below hbb
         refine app_X (d:=some 44) 4 rfl rfl rfl (.tmp 40) (.tmp 43) 49 rfl W.heap.size 9 i0 (.string ⟨#[]⟩) 1 16 Tryz.underlying49 ei ez es eb rfl (by decide) (.slice (some ⟨(w1.alloc (.cells #[encStr s] 9)).heap.size,0,none⟩) 0 0) 0 [] (by rfl) hR1 ⟨g,0,none⟩ k c ((o.take k).map encStr) (by rfl) HTL.out (HTC.out _ hB3) (enc_one _) (by unfold maxLen;omega) (by omega) (by have h9:=hB3.size;exact h9) ?_
         intro vw4 w4 hownw4 hgrow hat;have hOw4:=fun q hq=>(hR1.lt q hq).1
         have hP5:=Blk.same hP3 hgrow.size (hgrow.block _ (by simp;try omega) (fun e=>by injection e with e;simp at e));have hBw4:Below W.heap.size W w4:=hB3.grown hgrow hB3.size (fun q hq=>hOw4 q hq);replace hHeld:Below w.heap.size w w4:=below_then HB.out hBw4;clear hgrow hat hOw4;refine⟨.inr hHeld,?_⟩;simp only[puts];have hB5:=hBw4
         have hR5:w4.ownsRow W.heap.size 9 1 vw4 k ((o.take k).map encStr):=by simpa using hownw4
         clear hownw4 hba hR1 hB2 hP2 hB3 hP3 hbb
         refine app_X (d:=some 47) 7 rfl rfl rfl (.tmp 44) (.tmp 46) 49 rfl W.heap.size 9 i0 (.string ⟨#[]⟩) 1 16 Tryz.underlying49 ei ez es eb rfl (by decide) vw4 k ((o.take k).map encStr) (by rfl) hR5 ⟨w1.heap.size,0,none⟩ 1 1 [encStr s] (by rfl) rfl (lit_cells hP5) (by intro u hu;obtain rfl:=List.mem_singleton.1 hu;rfl) (by unfold maxLen;omega) (by omega) (by have h9:=hB5.size;exact h9) ?_
         intro vw7 w7 hownw7 hgrow hat;have hOw7:=fun q hq=>(hR5.lt q hq).1
         have hBw7:Below W.heap.size W w7:=hB5.grown hgrow hB5.size (fun q hq=>hOw7 q hq);replace hHeld:Below w.heap.size w w7:=below_then HB.out hBw7;clear hgrow hat hOw7;refine⟨.inr hHeld,?_⟩;simp only[puts]
         refine app_X (d:=some 51) 11 rfl rfl rfl (.tmp 47) (.tmp 50) 49 rfl W.heap.size 9 i0 (.string ⟨#[]⟩) 1 16 Tryz.underlying49 ei ez es eb rfl (by decide) vw7 (k+1) ((o.take k).map encStr ++ [encStr s]) (by rfl) hownw7 ad (m - k) (c - k) ((o.drop k).map encStr) (by rfl) HDL.out (HCD.out w7 hBw7) (enc_one _) (by unfold maxLen;omega) (by omega) (by have h9:=hBw7.size;exact h9) ?_
         intro vw8 w8 hownw8 hgrow hat;have hOw8:=fun q hq=>(hownw7.lt q hq).1
         have hBw8:Below W.heap.size W w8:=hBw7.grown hgrow hBw7.size (fun q hq=>hOw8 q hq);replace hHeld:Below w.heap.size w w8:=below_then HB.out hBw8;clear hgrow hat hOw8;refine⟨.inr hHeld,?_⟩;simp only[puts];refine takeX (d:=some 3) 12 rfl rfl hHeld (fun w' hS'=>by clear hS';go_simp;(try rfl)) ?_;simp only[puts];refine doneX (by kernel_rfl) ?_ _
         obtain⟨g2,c2,hv8⟩:∃g2 c2,vw8=.slice (some ⟨g2,0,none⟩) (k+1+(m - k)) c2:=by
          rcases hownw8.2 with⟨_,hm0⟩ | ⟨g2,cap,cur,hv,_⟩
          · omega
          · exact⟨g2,cap,hv⟩
         subst hv8;have e1:k+1+(m - k)=m+1:=by omega
         rw[e1] at hownw8⊢;have HR8:Hid (NmRow w.heap.size w8 g2 (m+1) c2 (pSet (l.take (i+1)))):=qq ⟨by rw[HIN.out];simp;have:=HR.out.1;omega,by
           rw[HIN.out,List.map_append,List.map_append];exact row_base hownw8 hWz⟩
         have HB8:=qq hHeld;clear hownw8 hownw7 hBw7 hBw8 hHeld hR5 hP5 hB5 e1;go_wp2_with fail;go_roundw
         case rel=>exact⟨i+1,m+1,g2,c2,_,by omega,by omega,by first | rfl | exact True.intro,by go_num,qq rfl,HR8,HB8⟩
         case measure=>simp[intOf];omega
  · obtain rfl:n=i:=by omega
    have HF:Hid (R (.returned (.slice (some ⟨g,0,none⟩) m c)) W):=qq (HRES.out _ _ (by
      have e:pSet l=o:=by rw[HO.out,HN.out,List.take_length]
      rw[e];have:=HR.out.2;rw[HR.out.1] at this⊢;exact this) HB.out)
    go_wp2_with fail
    (try go_ret)
    exact HF.out
end Go.Proofs.YtbepkpjcjpmpmaaGreatDoor
