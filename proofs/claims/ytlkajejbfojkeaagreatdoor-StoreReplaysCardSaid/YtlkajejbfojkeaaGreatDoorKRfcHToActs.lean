/- RfcH, FbK, Acts -/
import Derived.Test.YtlkajejbfojkeaaGreatDoorKRfcE
import Derived.Test.YtlkajejbfojkeaaGreatDoorKRfcF
import Derived.Test.YtlkajejbfojkeaaGreatDoorKRfcG
set_option linter.unusedSimpArgs false
set_option linter.unusedVariables false
set_option maxRecDepth 100000
set_option maxHeartbeats 16000000
namespace Go.Proofs.YtlkajejbfojkeaaGreatDoor
open Go.RowKit
theorem rright14_of (f:SFact) (hx:F64 f.ex) (w:World):Calls Tryz.prog 90 #[factV f] w (Makes (.bool (fok f)) w):=by
 rw[←rfok_eq f];obtain⟨k,an,aq,rg,nd,pt,pr,oc,dp,pa,st,hw,de,ex⟩:=f;have h6:decide (1≤pr∧pr≤2)=((pr==1) || (pr==2)):=by
  rw[Bool.eq_iff_iff];simp only[decide_eq_true_eq,Bool.or_eq_true,beq_iff_eq];omega
 have hd:decide (1≤de∧de≤2)=((de==1) || (de==2)):=by
  rw[Bool.eq_iff_iff];simp only[decide_eq_true_eq,Bool.or_eq_true,beq_iff_eq];omega
 by_cases h1k:k=1
 · subst h1k;exact rr14_1 an aq rg nd pt pr oc dp pa st hw de ex hx (idOk an aq) _ _ _ _ (stOk st hw) _ _ _ _ _ rfl rfl rfl rfl h6 rfl rfl rfl hd w (fun W=>rright05_of an aq W) (fun W=>rstate_of st hw W)
 by_cases h2k:k=2
 · subst h2k;exact rr14_2 an aq rg nd pt pr oc dp pa st hw de ex hx (idOk an aq) _ _ _ _ (stOk st hw) _ _ _ _ _ rfl rfl rfl rfl h6 rfl rfl rfl hd w (fun W=>rright05_of an aq W) (fun W=>rstate_of st hw W)
 by_cases h3k:k=3
 · subst h3k;exact rr14_3 an aq rg nd pt pr oc dp pa st hw de ex hx (idOk an aq) _ _ _ _ (stOk st hw) _ _ _ _ _ rfl rfl rfl rfl h6 rfl rfl rfl hd w (fun W=>rright05_of an aq W) (fun W=>rstate_of st hw W)
 by_cases h4k:k=4
 · subst h4k;exact rr14_4 an aq rg nd pt pr oc dp pa st hw de ex hx (idOk an aq) _ _ _ _ (stOk st hw) _ _ _ _ _ rfl rfl rfl rfl h6 rfl rfl rfl hd w (fun W=>rright05_of an aq W) (fun W=>rstate_of st hw W)
 by_cases h5k:k=5
 · subst h5k;exact rr14_5 an aq rg nd pt pr oc dp pa st hw de ex hx (idOk an aq) _ _ _ _ (stOk st hw) _ _ _ _ _ rfl rfl rfl rfl h6 rfl rfl rfl hd w (fun W=>rright05_of an aq W) (fun W=>rstate_of st hw W)
 by_cases h6k:k=6
 · subst h6k;exact rr14_6 an aq rg nd pt pr oc dp pa st hw de ex hx (idOk an aq) _ _ _ _ (stOk st hw) _ _ _ _ _ rfl rfl rfl rfl h6 rfl rfl rfl hd w (fun W=>rright05_of an aq W) (fun W=>rstate_of st hw W)
 by_cases h7k:k=7
 · subst h7k;exact rr14_7 an aq rg nd pt pr oc dp pa st hw de ex hx (idOk an aq) _ _ _ _ (stOk st hw) _ _ _ _ _ rfl rfl rfl rfl h6 rfl rfl rfl hd w (fun W=>rright05_of an aq W) (fun W=>rstate_of st hw W)
 by_cases h8k:k=8
 · subst h8k;exact rr14_8 an aq rg nd pt pr oc dp pa st hw de ex hx (idOk an aq) _ _ _ _ (stOk st hw) _ _ _ _ _ rfl rfl rfl rfl h6 rfl rfl rfl hd w (fun W=>rright05_of an aq W) (fun W=>rstate_of st hw W)
 have e1:fnamed k=[]:=by simp only[fnamed,h1k,h2k,h3k,h4k,h5k,h6k,h7k,h8k,if_false]
 have e2:fpk ⟨k,an,aq,rg,nd,pt,pr,oc,dp,pa,st,hw,de,ex⟩=false:=by simp only[fpk,h1k,h2k,h3k,h4k,h5k,h6k,h7k,h8k,if_false]
 have e3:(k==1)=false:=by simpa using h1k
 dsimp only;rw[e1,e2,e3];exact rr14_0 k (by omega) an aq rg nd pt pr oc dp pa st hw de ex hx (idOk an aq) _ _ _ _ (stOk st hw) _ _ _ _ _ rfl rfl rfl rfl h6 rfl rfl rfl hd w (fun W=>rright05_of an aq W) (fun W=>rstate_of st hw W)
attribute [local go_sem] store_float
def factI (f:SFact):Array Value:= #[.int .i64 f.k,.int .i64 f.an,.int .i64 f.aq,.int .i64 f.rg,.int .i64 f.nd,.int .i64 f.pt,.int .i64 f.pr,.int .i64 f.oc,.int .i64 f.dp,.int .i64 f.pa,.int .i64 f.st,.int .i64 f.hw,.int .i64 f.de]
theorem setTag_putI (f:SFact) (t:Nat) (n:Int) (h1:1≤t) (h2:t≤13):(factI f).setIfInBounds (t - 1) (.int .i64 n)=factI (setTag f t n):=by
 have:∀j:Fin 13,(factI f).setIfInBounds j.1 (.int .i64 n)=factI (setTag f (j.1+1) n):=by
  intro j
  match j with
  | 0 | 1 | 2 | 3 | 4 | 5 | 6 | 7 | 8 | 9 | 10 | 11 | 12=>rfl
 have h:=this ⟨t - 1,by omega⟩;simp only at h;rw[h,show t - 1+1=t by omega]
def RReadEnds (bs:List Nat) (w:World) (e:Ending) (w':World):Prop:=
 (∀f,rdFact bs=some f→e=.returned (.tuple #[factV f,.int .i64 0])∧Below w.heap.size w w')∧(rdFact bs=none→∃n:Int,n≠0∧e=.returned (.tuple #[factV fact00,.int .i64 n])∧Below w.heap.size w w')
theorem rread_split (a : Option Addr) (bs : List Nat) (cap : Nat) (n : Int) (w : World) (hB : BytesIn w a cap bs) (hl : bs.length ≤ 900) (hx : splitE bs.length bs 0 0 = .error n) :
    Calls Tryz.prog 29 #[.slice a bs.length cap] w (RReadEnds bs w):=by
 have HSP:=qq (fun W (hb:Below w.heap.size w W)=>rsplit_of a bs cap W (hB.below hb) hl);have HNO:=qq (rdFact_bad hx);have HX:=qq hx;have hn1:=(splitE_num _ _ _ _ _ hx).1;have hnn:(n !=0)=true:=by simpa using(show ¬n=0 by omega)
 have HT2:Hid ((w.alloc (.cells #[.int .i64 0,.int .i64 0,.int .i64 0,.int .i64 0,.int .i64 0,.int .i64 0,.int .i64 0,.int .i64 0,.int .i64 0,.int .i64 0,.int .i64 0,.int .i64 0,.int .i64 0,.float .f64 0] 42)).heap[w.heap.size]? =some (.cells #[.int .i64 0,.int .i64 0,.int .i64 0,.int .i64 0,.int .i64 0,.int .i64 0,.int .i64 0,.int .i64 0,.int .i64 0,.int .i64 0,.int .i64 0,.int .i64 0,.int .i64 0,.float .f64 0] 42 (0,0))):=qq (heap_alloc_new _ _)
 clear hB hx;go_enter Tryz.func29,Tryz.ntmps29;go_wp2_with fail;refine(HSP.out _ (by go_grown)).mono ?_;rintro e w1 ⟨_,hbad⟩;obtain⟨rfl,hb1⟩:=hbad n HX.out;have XT:=qq (hp_be HT2.out hb1);have XB:=qq (below_then (show Below w.heap.size w _ from by go_grown) hb1);clear hb1 hbad
 go_wp2_with (refine wpList_store_row rfl 42 (.tmp 2) (.tmp 23) rfl (w.heap.size) #[.int .i64 0,.int .i64 0,.int .i64 0,.int .i64 0,.int .i64 0,.int .i64 0,.int .i64 0,.int .i64 0,.int .i64 0,.int .i64 0,.int .i64 0,.int .i64 0,.int .i64 0,.float .f64 0] rfl rfl 42 #[.int .i64 0,.int .i64 0,.int .i64 0,.int .i64 0,.int .i64 0,.int .i64 0,.int .i64 0,.int .i64 0,.int .i64 0,.int .i64 0,.int .i64 0,.int .i64 0,.int .i64 0,.float .f64 0] XT.out (by kernel_rfl) rfl (by simp[Value.oneCell']) ?_)
 obtain⟨HFr,hgr⟩:=row_end (cells:= #[.int .i64 0,.int .i64 0,.int .i64 0,.int .i64 0,.int .i64 0,.int .i64 0,.int .i64 0,.int .i64 0,.int .i64 0,.int .i64 0,.int .i64 0,.int .i64 0,.int .i64 0,.float .f64 0]) XT.out;obtain⟨l1,q1,f1⟩:=HFr
 refine bodyPost_ret (v:=.tuple #[.agg #[.int .i64 0,.int .i64 0,.int .i64 0,.int .i64 0,.int .i64 0,.int .i64 0,.int .i64 0,.int .i64 0,.int .i64 0,.int .i64 0,.int .i64 0,.int .i64 0,.int .i64 0,.float .f64 0],.int .i64 n]) (by simp[results,Tryz.results29,go_sem,q1,f1]) rfl ?_;exact⟨fun f h=>(by rw[HNO.out] at h;cases h),fun _=>⟨n,by omega,rfl,bel_gr XB.out hgr (Nat.le_refl _)⟩⟩
theorem rread_go (a : Option Addr) (bs : List Nat) (cap : Nat) (xs : List Fld) (w : World) (hB : BytesIn w a cap bs) (hl : bs.length ≤ 900) (hx : splitE bs.length bs 0 0 = .ok xs) :
    Calls Tryz.prog 29 #[.slice a bs.length cap] w (RReadEnds bs w):=by
 have HFX:=qq (rdFact_ok hx);have HALL:=qq (splitE_all _ _ _ _ _ hx hB.byte (by omega));have HSP:=qq (fun W (hb:Below w.heap.size w W)=>rsplit_of a bs cap W (hB.below hb) hl);have HX:=qq hx
 have HT2:Hid ((w.alloc (.cells #[.int .i64 0,.int .i64 0,.int .i64 0,.int .i64 0,.int .i64 0,.int .i64 0,.int .i64 0,.int .i64 0,.int .i64 0,.int .i64 0,.int .i64 0,.int .i64 0,.int .i64 0,.float .f64 0] 42)).heap[w.heap.size]? =some (.cells #[.int .i64 0,.int .i64 0,.int .i64 0,.int .i64 0,.int .i64 0,.int .i64 0,.int .i64 0,.int .i64 0,.int .i64 0,.int .i64 0,.int .i64 0,.int .i64 0,.int .i64 0,.float .f64 0] 42 (0,0))):=qq (heap_alloc_new _ _)
 have hmk:∀w:World,(Instr.makeSlice 182 (.int .i64 13) (.int .i64 13)).run Tryz.prog w=.ok (.slice (some ⟨w.heap.size,0,none⟩) 13 13) (w.alloc (.cells (factI fact00) 3)):=fun w=>by kernel_rfl
 clear hB hx;go_enter Tryz.func29,Tryz.ntmps29;go_wp2_with fail;refine(HSP.out _ (by go_grown)).mono ?_;rintro e w1 ⟨hgood,_⟩;obtain⟨a1,n1,c1,rfl,hrf,hb1⟩:=hgood xs HX.out;obtain⟨a2,cap2,hv,hr⟩:=hrf;simp only[Value.slice.injEq] at hv;obtain⟨rfl,rfl,rfl⟩:=hv;have HRF:=qq hr;have HT3:=qq (hp_be HT2.out hb1);have HB1:=qq (below_then (show Below w.heap.size w _ from by go_grown) hb1)
 have hz1:=hb1.size;simp only[World.size_alloc] at hz1;obtain⟨N,hN⟩:∃n,n=xs.length:=⟨_,rfl⟩
 have HNN:=qq hN;have hN16:N≤16:=by have:=HALL.out.1;omega
 rw[←hN];clear hr hb1 hN HT2 hgood;go_wp2_with fail
 go_loopw [28,7,8] (fun cc xx uu wr=>∃(i:Nat) (f:SFact) (b:Bool),i≤N∧cc=.int .i64 (i:Int)∧xx=flV f.ex∧uu=.bool b∧Hid (rdAll (fact00,false) xs=rdAll (f,b) (xs.drop i))∧Hid (F64 f.ex)∧Hid (wr.heap[w.heap.size]? =some (.cells #[.int .i64 0,.int .i64 0,.int .i64 0,.int .i64 0,.int .i64 0,.int .i64 0,.int .i64 0,.int .i64 0,.int .i64 0,.int .i64 0,.int .i64 0,.int .i64 0,.int .i64 0,.float .f64 0] 42 (0,0)))∧Hid (Blk wr w1.heap.size (factI f))∧Hid (Below w.heap.size w wr)∧Hid (Below w1.heap.size w1 wr)) (fun cc _ _ _=>N - (intOf cc).toNat)
 case atStart=>exact⟨0,fact00,false,by omega,by first | rfl | go_num,by first | rfl | trivial,by first | rfl | trivial,qq rfl,qq (by unfold F64;decide),qq (hp_al HT3.out _),qq (Blk.fresh w1 (factI fact00) _ _ rfl),qq (bel_alloc HB1.out _),qq (bel_alloc (Below.refl w1.heap.size w1) _)⟩
 case round=>
  obtain⟨i,f,b,hi,rfl,rfl,rfl,HR,HX,HT,HF,HB,HD⟩:=hrel;have hi0:(0:Int)≤(i:Int):=by omega
  by_cases hlt:i<N
  · obtain⟨x,hx⟩:∃x,xs[i]? =some x:=⟨_,List.getElem?_eq_getElem (by have:=HNN.out;omega)⟩
    have hi1:(i:Int)<(N:Int):=by omega
    obtain⟨g,rfl,hg,da,dc,h0,h1,h2⟩:=HRF.out i x hx;have c0:=(HD.out.cell (p:=⟨g,i*2,none⟩) hg).trans h0;have c1:=(HD.out.cell (p:=⟨g,i*2+1,none⟩) hg).trans h1;have HXA:=qq (HALL.out.2 x (List.mem_of_getElem? hx));have HDC:Hid (∀W,Below w1.heap.size w1 W→DataC W da x.d):=qq (fun W hW=>(show DataC w1 da x.d from h2).below hW)
    have HDR:Hid (xs.drop i=x::xs.drop (i+1)):=qq (by obtain⟨hil,he⟩:=List.getElem?_eq_some_iff.1 hx;rw[List.drop_eq_getElem_cons hil,he]);have ht1:=HXA.out.1;have ht2:=HXA.out.2.1;obtain⟨t,d⟩:=x;dsimp only at*;obtain⟨nd,hnd⟩:∃n,n=d.length:=⟨_,rfl⟩
    have hnd2:nd≤200:=by have:=HXA.out.2.2.1;omega
    have HND:=qq hnd;rw[←hnd] at c1;have XT:=qq (hp_al HT.out (.cells #[(t:Int),.slice da nd dc] 184));have HFA:=qq (HF.out.alloc (.cells #[(t:Int),.slice da nd dc] 184));have XB:=qq (bel_alloc HB.out (.cells #[(t:Int),.slice da nd dc] 184));have HDA:=qq (bel_alloc HD.out (.cells #[(t:Int),.slice da nd dc] 184));have HXC:=qq (Blk.fresh wr #[(t:Int),.slice da nd dc] 184 _ rfl);have hfl:=HF.out.lt
    have hwr:=HB.out.size;clear hx h0 h1 h2 hnd hlt HT HF HB HD;by_cases h14:t=14
    · subst h14;have hstep:Hid (∀s:SFact×Bool,rdStep s ⟨14,d⟩=(fltF d).map fun u=>({s.1 with ex:=u},true)):=qq (fun s=>rfl)
      cases hq:fltF d with
      | none=>
       have HE:=qq (rdStep_none (t:=xs.drop (i+1)) (show rdStep (f,b) ⟨14,d⟩=none by rw[hstep.out,hq];rfl));have HRN:Hid (rdFact bs=none):=qq (by rw[HFX.out,HR.out,HDR.out,HE.out];rfl);have HTF:=qq (rtoflt_none da dc d _ HXA.out.2.2.2 (HDC.out _ HDA.out) hq);rw[←HND.out] at HTF;clear hq
       as_aux_lemma=>
        go_wp2_with fail;refine HTF.out.mono ?_;rintro e w3 ⟨rfl,hw3⟩;rw[hw3] at XT HFA XB HDA HXC;clear hw3;obtain⟨lx,qx,fx⟩:=HXC.out
        go_wp2_with (refine wpList_store_row rfl 42 (.tmp 2) (.tmp 43) rfl (w.heap.size) #[.int .i64 0,.int .i64 0,.int .i64 0,.int .i64 0,.int .i64 0,.int .i64 0,.int .i64 0,.int .i64 0,.int .i64 0,.int .i64 0,.int .i64 0,.int .i64 0,.int .i64 0,.float .f64 0] rfl rfl 42 #[.int .i64 0,.int .i64 0,.int .i64 0,.int .i64 0,.int .i64 0,.int .i64 0,.int .i64 0,.int .i64 0,.int .i64 0,.int .i64 0,.int .i64 0,.int .i64 0,.int .i64 0,.float .f64 0] XT.out (by kernel_rfl) rfl (by simp[Value.oneCell']) ?_)
        obtain⟨HFr,hgr⟩:=row_end (cells:= #[.int .i64 0,.int .i64 0,.int .i64 0,.int .i64 0,.int .i64 0,.int .i64 0,.int .i64 0,.int .i64 0,.int .i64 0,.int .i64 0,.int .i64 0,.int .i64 0,.int .i64 0,.float .f64 0]) XT.out;obtain⟨l1,q1,f1⟩:=HFr
        refine bodyPost_ret (v:=.tuple #[.agg #[.int .i64 0,.int .i64 0,.int .i64 0,.int .i64 0,.int .i64 0,.int .i64 0,.int .i64 0,.int .i64 0,.int .i64 0,.int .i64 0,.int .i64 0,.int .i64 0,.int .i64 0,.float .f64 0],.int .i64 4]) (by simp[results,Tryz.results29,go_sem,q1,f1]) rfl ?_;exact⟨fun f h=>(by rw[HRN.out] at h;cases h),fun _=>⟨4,by decide,rfl,bel_gr XB.out hgr (Nat.le_refl _)⟩⟩
      | some u=>
       have HE:=qq (rdStep_some (t:=xs.drop (i+1)) (show rdStep (f,b) ⟨14,d⟩=some ({f with ex:=u},true) by rw[hstep.out,hq];rfl));have HU:=qq (fltF_F64 hq HXA.out.2.2.2).1;have HTF:=qq (rtoflt_some da dc d u _ HXA.out.2.2.2 (HDC.out _ HDA.out) hq);rw[←HND.out] at HTF;clear hq
       as_aux_lemma=>
        go_wp2_with fail;refine HTF.out.mono ?_;rintro e w3 ⟨rfl,hw3⟩;rw[hw3] at XT HFA XB HDA HXC;clear hw3;obtain⟨lx,qx,fx⟩:=HXC.out;go_wp2_with fail;go_roundw
        case rel=>exact⟨i+1,{f with ex:=u},true,by omega,by go_num,by first | rfl | exact True.intro,by first | rfl | exact True.intro,qq (by rw[HR.out,HDR.out,HE.out]),HU,XT,HFA,XB,HDA⟩
        case measure=>simp[intOf];omega
    · have hq14:((t:Int)==14)=false:=by simpa using(show ¬(t:Int)=14 by omega)
      have HST:Hid (rdStep (f,b) ⟨t,d⟩=if 14<t∨d=[] then none else(numF d).map fun(n:Nat)=>(setTag f t (n:Int),b)):=qq (by unfold rdStep;rw[if_neg h14]);clear h14
      cases hq:numF d with
      | none=>
       obtain⟨kk,hk1,hTN⟩:=rtonum_none da dc d _ HXA.out.2.2.2 (HDC.out _ HDA.out) hq;have HTN:=qq hTN;rw[←HND.out] at HTN;have HE:=qq (rdStep_none (t:=xs.drop (i+1)) (show rdStep (f,b) ⟨t,d⟩=none by rw[HST.out,hq];split<;>rfl));have HRN:Hid (rdFact bs=none):=qq (by rw[HFX.out,HR.out,HDR.out,HE.out];rfl);have hkk:(kk !=0)=true:=by simpa using hk1
       have HNZ:Hid (nd≠0):=qq (fun e=>by rw[List.length_eq_zero_iff.1 (HND.out.symm.trans e)] at hq;exact absurd hq (by decide));clear hq hTN
       as_aux_lemma=>
        have hnz:nd≠0:=HNZ.out;have hz:((nd:Int)==0)=false:=by simpa using hnz
        have hcut:14<t∨t≤14:=by omega
        rcases hcut with h | h
        · have hh:(14:Int)<(t:Int):=by omega
          clear h;go_wp2_with fail;refine HTN.out.mono ?_;rintro e w3 ⟨rfl,hw3⟩;rw[hw3] at XT HFA XB HDA HXC;clear hw3;obtain⟨lx,qx,fx⟩:=HXC.out
          go_wp2_with (refine wpList_store_row rfl 42 (.tmp 2) (.tmp 64) rfl (w.heap.size) #[.int .i64 0,.int .i64 0,.int .i64 0,.int .i64 0,.int .i64 0,.int .i64 0,.int .i64 0,.int .i64 0,.int .i64 0,.int .i64 0,.int .i64 0,.int .i64 0,.int .i64 0,.float .f64 0] rfl rfl 42 #[.int .i64 0,.int .i64 0,.int .i64 0,.int .i64 0,.int .i64 0,.int .i64 0,.int .i64 0,.int .i64 0,.int .i64 0,.int .i64 0,.int .i64 0,.int .i64 0,.int .i64 0,.float .f64 0] XT.out (by kernel_rfl) rfl (by simp[Value.oneCell']) ?_)
          obtain⟨HFr,hgr⟩:=row_end (cells:= #[.int .i64 0,.int .i64 0,.int .i64 0,.int .i64 0,.int .i64 0,.int .i64 0,.int .i64 0,.int .i64 0,.int .i64 0,.int .i64 0,.int .i64 0,.int .i64 0,.int .i64 0,.float .f64 0]) XT.out;obtain⟨l1,q1,f1⟩:=HFr
          refine bodyPost_ret (v:=.tuple #[.agg #[.int .i64 0,.int .i64 0,.int .i64 0,.int .i64 0,.int .i64 0,.int .i64 0,.int .i64 0,.int .i64 0,.int .i64 0,.int .i64 0,.int .i64 0,.int .i64 0,.int .i64 0,.float .f64 0],.int .i64 4]) (by simp[results,Tryz.results29,go_sem,q1,f1]) rfl ?_;exact⟨fun f h=>(by rw[HRN.out] at h;cases h),fun _=>⟨4,by decide,rfl,bel_gr XB.out hgr (Nat.le_refl _)⟩⟩
        · have hh:¬(14:Int)<(t:Int):=by omega
          clear h;go_wp2_with fail;refine HTN.out.mono ?_;rintro e w3 ⟨rfl,hw3⟩;rw[hw3] at XT HFA XB HDA HXC;clear hw3;obtain⟨lx,qx,fx⟩:=HXC.out
          go_wp2_with (refine wpList_store_row rfl 42 (.tmp 2) (.tmp 64) rfl (w.heap.size) #[.int .i64 0,.int .i64 0,.int .i64 0,.int .i64 0,.int .i64 0,.int .i64 0,.int .i64 0,.int .i64 0,.int .i64 0,.int .i64 0,.int .i64 0,.int .i64 0,.int .i64 0,.float .f64 0] rfl rfl 42 #[.int .i64 0,.int .i64 0,.int .i64 0,.int .i64 0,.int .i64 0,.int .i64 0,.int .i64 0,.int .i64 0,.int .i64 0,.int .i64 0,.int .i64 0,.int .i64 0,.int .i64 0,.float .f64 0] XT.out (by kernel_rfl) rfl (by simp[Value.oneCell']) ?_)
          obtain⟨HFr,hgr⟩:=row_end (cells:= #[.int .i64 0,.int .i64 0,.int .i64 0,.int .i64 0,.int .i64 0,.int .i64 0,.int .i64 0,.int .i64 0,.int .i64 0,.int .i64 0,.int .i64 0,.int .i64 0,.int .i64 0,.float .f64 0]) XT.out;obtain⟨l1,q1,f1⟩:=HFr
          refine bodyPost_ret (v:=.tuple #[.agg #[.int .i64 0,.int .i64 0,.int .i64 0,.int .i64 0,.int .i64 0,.int .i64 0,.int .i64 0,.int .i64 0,.int .i64 0,.int .i64 0,.int .i64 0,.int .i64 0,.int .i64 0,.float .f64 0],.int .i64 4]) (by simp[results,Tryz.results29,go_sem,q1,f1]) rfl ?_;exact⟨fun f h=>(by rw[HRN.out] at h;cases h),fun _=>⟨4,by decide,rfl,bel_gr XB.out hgr (Nat.le_refl _)⟩⟩
      | some n=>
       have HTN:=qq (rtonum_some da dc d n _ HXA.out.2.2.2 (HDC.out _ HDA.out) hq);rw[←HND.out] at HTN;by_cases hgt:14<t∨nd=0
       · have HE:=qq (rdStep_none (t:=xs.drop (i+1)) (show rdStep (f,b) ⟨t,d⟩=none by rw[HST.out,if_pos (hgt.imp id (fun h=>List.length_eq_zero_iff.1 (by rw[←HND.out];exact h)))]));have HRN:Hid (rdFact bs=none):=qq (by rw[HFX.out,HR.out,HDR.out,HE.out];rfl);clear hq
         as_aux_lemma=>
          have hcut:14<t∨t≤14∧nd=0:=by omega
          clear hgt;rcases hcut with h | ⟨h,h'⟩
          · have hh:(14:Int)<(t:Int):=by omega
            clear h;go_wp2_with fail;refine HTN.out.mono ?_;rintro e w3 ⟨rfl,hw3⟩;rw[hw3] at XT HFA XB HDA HXC;clear hw3;obtain⟨lx,qx,fx⟩:=HXC.out
            go_wp2_with (refine wpList_store_row rfl 42 (.tmp 2) (.tmp 64) rfl (w.heap.size) #[.int .i64 0,.int .i64 0,.int .i64 0,.int .i64 0,.int .i64 0,.int .i64 0,.int .i64 0,.int .i64 0,.int .i64 0,.int .i64 0,.int .i64 0,.int .i64 0,.int .i64 0,.float .f64 0] rfl rfl 42 #[.int .i64 0,.int .i64 0,.int .i64 0,.int .i64 0,.int .i64 0,.int .i64 0,.int .i64 0,.int .i64 0,.int .i64 0,.int .i64 0,.int .i64 0,.int .i64 0,.int .i64 0,.float .f64 0] XT.out (by kernel_rfl) rfl (by simp[Value.oneCell']) ?_)
            obtain⟨HFr,hgr⟩:=row_end (cells:= #[.int .i64 0,.int .i64 0,.int .i64 0,.int .i64 0,.int .i64 0,.int .i64 0,.int .i64 0,.int .i64 0,.int .i64 0,.int .i64 0,.int .i64 0,.int .i64 0,.int .i64 0,.float .f64 0]) XT.out;obtain⟨l1,q1,f1⟩:=HFr
            refine bodyPost_ret (v:=.tuple #[.agg #[.int .i64 0,.int .i64 0,.int .i64 0,.int .i64 0,.int .i64 0,.int .i64 0,.int .i64 0,.int .i64 0,.int .i64 0,.int .i64 0,.int .i64 0,.int .i64 0,.int .i64 0,.float .f64 0],.int .i64 4]) (by simp[results,Tryz.results29,go_sem,q1,f1]) rfl ?_;exact⟨fun f h=>(by rw[HRN.out] at h;cases h),fun _=>⟨4,by decide,rfl,bel_gr XB.out hgr (Nat.le_refl _)⟩⟩
          · have hh:¬(14:Int)<(t:Int):=by omega
            subst h';clear h;go_wp2_with fail;refine HTN.out.mono ?_;rintro e w3 ⟨rfl,hw3⟩;rw[hw3] at XT HFA XB HDA HXC;clear hw3;obtain⟨lx,qx,fx⟩:=HXC.out
            go_wp2_with (refine wpList_store_row rfl 42 (.tmp 2) (.tmp 64) rfl (w.heap.size) #[.int .i64 0,.int .i64 0,.int .i64 0,.int .i64 0,.int .i64 0,.int .i64 0,.int .i64 0,.int .i64 0,.int .i64 0,.int .i64 0,.int .i64 0,.int .i64 0,.int .i64 0,.float .f64 0] rfl rfl 42 #[.int .i64 0,.int .i64 0,.int .i64 0,.int .i64 0,.int .i64 0,.int .i64 0,.int .i64 0,.int .i64 0,.int .i64 0,.int .i64 0,.int .i64 0,.int .i64 0,.int .i64 0,.float .f64 0] XT.out (by kernel_rfl) rfl (by simp[Value.oneCell']) ?_)
            obtain⟨HFr,hgr⟩:=row_end (cells:= #[.int .i64 0,.int .i64 0,.int .i64 0,.int .i64 0,.int .i64 0,.int .i64 0,.int .i64 0,.int .i64 0,.int .i64 0,.int .i64 0,.int .i64 0,.int .i64 0,.int .i64 0,.float .f64 0]) XT.out;obtain⟨l1,q1,f1⟩:=HFr
            refine bodyPost_ret (v:=.tuple #[.agg #[.int .i64 0,.int .i64 0,.int .i64 0,.int .i64 0,.int .i64 0,.int .i64 0,.int .i64 0,.int .i64 0,.int .i64 0,.int .i64 0,.int .i64 0,.int .i64 0,.int .i64 0,.float .f64 0],.int .i64 4]) (by simp[results,Tryz.results29,go_sem,q1,f1]) rfl ?_;exact⟨fun f h=>(by rw[HRN.out] at h;cases h),fun _=>⟨4,by decide,rfl,bel_gr XB.out hgr (Nat.le_refl _)⟩⟩
       · have HE:=qq (rdStep_some (t:=xs.drop (i+1)) (show rdStep (f,b) ⟨t,d⟩=some (setTag f t n,b) by rw[HST.out,if_neg (fun h=>hgt (h.imp id (fun e=>by rw[HND.out,e];rfl))),hq];rfl));clear hq
         as_aux_lemma=>
          have hcut:t≤13∧nd≠0:=⟨by have h1:=(not_or.1 hgt).1;have h2:¬(t:Int)=14:=(by simpa using hq14);omega,fun h=>hgt (.inr h)⟩
          obtain⟨ht13,hnp⟩:=hcut;have hh:¬(14:Int)<(t:Int):=by omega
          have hz:((nd:Int)==0)=false:=by simpa using hnp
          have hw1:IntKind.i64.wrap ((t:Int) - 1)=((t - 1:Nat):Int):=by have h:=IntWalk.i64_in ((t:Int) - 1) (by omega);rw[h];omega
          obtain⟨t1,ht⟩:∃n,n=t - 1:=⟨_,rfl⟩
          have HTT:=qq ht;rw[←ht] at hw1;have ht14:t1<13:=by omega
          have hi13:(t1:Int)<13:=by omega
          have hi10:(0:Int)≤(t1:Int):=by omega
          clear ht hgt hnp;go_wp2_with fail;refine HTN.out.mono ?_;rintro e w3 ⟨rfl,hw3⟩;rw[hw3] at XT HFA XB HDA HXC;clear hw3;obtain⟨lx,qx,fx⟩:=HXC.out;have HXT:=qq (hp_st XT.out (p:=⟨w1.heap.size,t1,none⟩) (by dsimp only;omega) (.int .i64 (n:Int)));have HXB:=qq (bel_set XB.out (p:=⟨w1.heap.size,t1,none⟩) (by have:=HB1.out.size;dsimp only;omega) (.int .i64 (n:Int)))
          have HXD:=qq (bel_set HDA.out (p:=⟨w1.heap.size,t1,none⟩) (by dsimp only;omega) (.int .i64 (n:Int)));have HXF:Hid (Blk (w3.setCell ⟨w1.heap.size,t1,none⟩ (.int .i64 (n:Int))) w1.heap.size (factI (setTag f t n))):=qq (by
            have h:=HFA.out.set' t1 (by simp[factI];omega) (.int .i64 (n:Int));rw[←setTag_putI f t n (by omega) (by omega),←HTT.out,Array.setIfInBounds,dif_pos (show t1<(factI f).size by simp[factI];omega)];exact h)
          obtain⟨lf,qf,ff⟩:=HFA.out;have hqs:(w3.cell? ⟨w1.heap.size,t1,none⟩).isSome=true:=by rw[qf];simp[factI];omega
          obtain⟨old,hold⟩:=Option.isSome_iff_exists.1 hqs;have hf6:=ff t1;clear qf ff hqs;go_wp2_with fail;go_roundw
          case rel=>exact⟨i+1,setTag f t n,b,by omega,by go_num,by rw[setTag_ex],by first | rfl | exact True.intro,qq (by rw[HR.out,HDR.out,HE.out]),qq (by rw[setTag_ex];exact HX.out),HXT,HXF,HXB,HXD⟩
          case measure=>simp[intOf];omega
  · obtain rfl:i=N:=by omega
    have HEN2:Hid (rdAll (fact00,false) xs=some (f,b)):=qq (by rw[HR.out,List.drop_eq_nil_of_le (by have:=HNN.out;omega)];rfl);clear HR hlt hi;have HFR:=qq (fun W=>rright14_of f HX.out W);have hwr:=HB.out.size;obtain⟨k,an,aq,rg,nd,pt,pr,oc,dp,pa,st,hw,de,ex⟩:=f;obtain⟨okb,hok⟩:∃o,o=fok ⟨k,an,aq,rg,nd,pt,pr,oc,dp,pa,st,hw,de,ex⟩:=⟨_,rfl⟩
    rw[←hok] at HFR;have HOK:=qq hok;simp only[factV,factC] at HFR;clear hok;simp only[factI] at HF;go_wp2_with fail
    refine reg_start2 (fun w'=>Blk w' w1.heap.size #[k,an,aq,rg,nd,pt,pr,oc,dp,pa,st,hw,de]∧Below w.heap.size w w') (fun w'=>w'.heap[w.heap.size]? =some (.cells #[.int .i64 0,.int .i64 0,.int .i64 0,.int .i64 0,.int .i64 0,.int .i64 0,.int .i64 0,.int .i64 0,.int .i64 0,.int .i64 0,.int .i64 0,.int .i64 0,.int .i64 0,.float .f64 0] 42 (0,0))) (by kernel_rfl) ⟨HF.out.drew,bel_drew HB.out⟩ (hp_dr HT.out) ?_
    rintro w5 hHeld hT5;have HT5:=qq hT5;clear hT5;refine takeM (d:=some 72) 0 rfl rfl hHeld (fun w' _=>by go_simp;(try rfl)) ?_;simp only[puts];refine takeM (d:=some 73) 1 rfl rfl hHeld (fun w' _=>by go_simp;(try rfl)) ?_;simp only[puts];refine takeM (d:=some 74) 2 rfl rfl hHeld (fun w' hS'=>by have qA:=hS'.1.cell;clear hS';go_simp;(try rfl)) ?_;simp only[puts]
    refine takeM (d:=some 75) 3 rfl rfl hHeld (fun w' _=>by go_simp;(try rfl)) ?_;simp only[puts];refine takeM (d:=some 76) 4 rfl rfl hHeld (fun w' _=>by go_simp;(try rfl)) ?_;simp only[puts];refine takeM (d:=some 77) 5 rfl rfl hHeld (fun w' hS'=>by have qA:=hS'.1.cell;clear hS';go_simp;(try rfl)) ?_;simp only[puts];refine takeM (d:=some 78) 6 rfl rfl hHeld (fun w' _=>by go_simp;(try rfl)) ?_
    simp only[puts];refine takeM (d:=some 79) 7 rfl rfl hHeld (fun w' _=>by go_simp;(try rfl)) ?_;simp only[puts];refine takeM (d:=some 80) 8 rfl rfl hHeld (fun w' hS'=>by have qA:=hS'.1.cell;clear hS';go_simp;(try rfl)) ?_;simp only[puts];refine takeM (d:=some 81) 9 rfl rfl hHeld (fun w' _=>by go_simp;(try rfl)) ?_;simp only[puts]
    refine takeM (d:=some 82) 10 rfl rfl hHeld (fun w' _=>by go_simp;(try rfl)) ?_;simp only[puts];refine takeM (d:=some 83) 11 rfl rfl hHeld (fun w' _=>by go_simp;(try rfl)) ?_;simp only[puts];refine takeM (d:=some 84) 12 rfl rfl hHeld (fun w' hS'=>by have qA:=hS'.1.cell;clear hS';go_simp;(try rfl)) ?_;simp only[puts];refine takeM (d:=some 85) 13 rfl rfl hHeld (fun w' _=>by go_simp;(try rfl)) ?_
    simp only[puts];refine takeM (d:=some 86) 14 rfl rfl hHeld (fun w' _=>by go_simp;(try rfl)) ?_;simp only[puts];refine takeM (d:=some 87) 15 rfl rfl hHeld (fun w' hS'=>by have qA:=hS'.1.cell;clear hS';go_simp;(try rfl)) ?_;simp only[puts];refine takeM (d:=some 88) 16 rfl rfl hHeld (fun w' _=>by go_simp;(try rfl)) ?_;simp only[puts]
    refine takeM (d:=some 89) 17 rfl rfl hHeld (fun w' _=>by go_simp;(try rfl)) ?_;simp only[puts];refine takeM (d:=some 90) 18 rfl rfl hHeld (fun w' hS'=>by have qA:=hS'.1.cell;clear hS';go_simp;(try rfl)) ?_;simp only[puts];refine takeM (d:=some 91) 19 rfl rfl hHeld (fun w' _=>by go_simp;(try rfl)) ?_;simp only[puts];refine takeM (d:=some 92) 20 rfl rfl hHeld (fun w' _=>by go_simp;(try rfl)) ?_
    simp only[puts];refine takeM (d:=some 93) 21 rfl rfl hHeld (fun w' hS'=>by have qA:=hS'.1.cell;clear hS';go_simp;(try rfl)) ?_;simp only[puts];refine takeM (d:=some 94) 22 rfl rfl hHeld (fun w' _=>by go_simp;(try rfl)) ?_;simp only[puts];refine takeM (d:=some 95) 23 rfl rfl hHeld (fun w' _=>by go_simp;(try rfl)) ?_;simp only[puts]
    refine takeM (d:=some 96) 24 rfl rfl hHeld (fun w' hS'=>by have qA:=hS'.1.cell;clear hS';go_simp;(try rfl)) ?_;simp only[puts];refine takeM (d:=some 97) 25 rfl rfl hHeld (fun w' _=>by go_simp;(try rfl)) ?_;simp only[puts];refine takeM (d:=some 98) 26 rfl rfl hHeld (fun w' _=>by go_simp;(try rfl)) ?_;simp only[puts]
    refine takeM (d:=some 99) 27 rfl rfl hHeld (fun w' hS'=>by have qA:=hS'.1.cell;clear hS';go_simp;(try rfl)) ?_;simp only[puts];refine takeM (d:=some 100) 28 rfl rfl hHeld (fun w' _=>by go_simp;(try rfl)) ?_;simp only[puts];refine takeM (d:=some 101) 29 rfl rfl hHeld (fun w' _=>by go_simp;(try rfl)) ?_;simp only[puts]
    refine takeM (d:=some 102) 30 rfl rfl hHeld (fun w' hS'=>by have qA:=hS'.1.cell;clear hS';go_simp;(try rfl)) ?_;simp only[puts];refine takeM (d:=some 103) 31 rfl rfl hHeld (fun w' _=>by go_simp;(try rfl)) ?_;simp only[puts];refine takeM (d:=some 104) 32 rfl rfl hHeld (fun w' _=>by go_simp;(try rfl)) ?_;simp only[puts]
    refine takeM (d:=some 105) 33 rfl rfl hHeld (fun w' hS'=>by have qA:=hS'.1.cell;clear hS';go_simp;(try rfl)) ?_;simp only[puts];refine takeM (d:=some 106) 34 rfl rfl hHeld (fun w' _=>by go_simp;(try rfl)) ?_;simp only[puts];refine takeM (d:=some 107) 35 rfl rfl hHeld (fun w' _=>by go_simp;(try rfl)) ?_;simp only[puts]
    refine takeM (d:=some 108) 36 rfl rfl hHeld (fun w' hS'=>by have qA:=hS'.1.cell;clear hS';go_simp;(try rfl)) ?_;simp only[puts];refine takeM (d:=some 109) 37 rfl rfl hHeld (fun w' _=>by go_simp;(try rfl)) ?_;simp only[puts];refine takeM (d:=some 110) 38 rfl rfl hHeld (fun w' _=>by go_simp;(try rfl)) ?_;simp only[puts]
    refine takeM (d:=some 111) 39 rfl rfl hHeld (fun w' hS'=>by have qA:=hS'.1.cell;clear hS';go_simp;(try rfl)) ?_;simp only[puts];refine takeM (d:=some 112) 40 rfl rfl hHeld (fun w' _=>by go_simp;(try rfl)) ?_;simp only[puts];refine takeM (d:=some 113) 41 rfl rfl hHeld (fun w' _=>by go_simp;(try rfl)) ?_;simp only[puts];refine one_M 42 (by kernel_rfl) ?_;have hb5:=hHeld.2.size
    refine new_T (d:=some 15) 42 (.pointer (some ⟨w5.heap.size,0,none⟩)) #[.int .i64 0,.int .i64 0,.int .i64 0,.int .i64 0,.int .i64 0,.int .i64 0,.int .i64 0,.int .i64 0,.int .i64 0,.int .i64 0,.int .i64 0,.int .i64 0,.int .i64 0,.float .f64 0] 42 rfl rfl (by go_simp) ⟨hHeld.1.alloc _,bel_alloc hHeld.2 _⟩ ?_;have hlw5:=hHeld.1.lt;have HT6a:=HT5;clear hHeld;rintro w7 ⟨⟨hb7,hB7⟩,⟨hK7,hTK7⟩,hR7⟩
    have HT7:=qq (hp_be HT5.out hR7);have HTK7:=qq hTK7;have HB7:=qq hB7;simp only[puts]
    refine last_row 43 42 (.tmp 15) (.tmp 113) rfl rfl rfl (w5.heap.size) #[.int .i64 k,.int .i64 an,.int .i64 aq,.int .i64 rg,.int .i64 nd,.int .i64 pt,.int .i64 pr,.int .i64 oc,.int .i64 dp,.int .i64 pa,.int .i64 st,.int .i64 hw,.int .i64 de,.float .f64 ex] #[.int .i64 0,.int .i64 0,.int .i64 0,.int .i64 0,.int .i64 0,.int .i64 0,.int .i64 0,.int .i64 0,.int .i64 0,.int .i64 0,.int .i64 0,.int .i64 0,.int .i64 0,.float .f64 0] 42 HTK7.out rfl rfl (by kernel_rfl) rfl (by simp[Value.oneCell']) ?_
    rintro w8 hK hg;have HK8:=qq hK;have HT8:=qq (hp_gr HT7.out hg (by omega));have HB8:=qq (bel_gr HB7.out hg (by omega));have hwz:w.heap.size<w8.heap.size:=by have:=hg.size;have:=hR7.size;have:=HK8.out.lt;omega
    clear hK hg hb7 hB7 hK7 hTK7 hR7 HT6a;obtain⟨l8,q8,f8⟩:=HK8.out
    cases hq:(b !=(k==1)) with
    | false=>
     have HDK:Hid (b=decide (k=1)):=qq (by
       have h1:=hq
       cases b<;>by_cases hk:k=1<;>simp_all)
     go_wp2_with fail;refine(HFR.out _).mono ?_;rintro e w3 ⟨rfl,hb3⟩;have HF3:=qq (HK8.out.below hb3);have XT:=qq (hp_be HT8.out hb3);have XB:=qq (below_then HB8.out hb3);clear hb3 q8 f8 l8;obtain⟨lf,qf,ff⟩:=HF3.out
     cases okb with
     | true=>
      have HRS:Hid (rdFact bs=some ⟨k,an,aq,rg,nd,pt,pr,oc,dp,pa,st,hw,de,ex⟩):=qq (by
        rw[HFX.out,HEN2.out];unfold rdEnd;simp only;rw[if_neg (by rw[←HOK.out];intro h;rcases h with h | h;exact h HDK.out;cases h)])
      go_wp2_with (refine wpList_store_row rfl 42 (.tmp 2) (.tmp 125) rfl (w.heap.size) #[.int .i64 k,.int .i64 an,.int .i64 aq,.int .i64 rg,.int .i64 nd,.int .i64 pt,.int .i64 pr,.int .i64 oc,.int .i64 dp,.int .i64 pa,.int .i64 st,.int .i64 hw,.int .i64 de,.float .f64 ex] rfl rfl 42 #[.int .i64 0,.int .i64 0,.int .i64 0,.int .i64 0,.int .i64 0,.int .i64 0,.int .i64 0,.int .i64 0,.int .i64 0,.int .i64 0,.int .i64 0,.int .i64 0,.int .i64 0,.float .f64 0] XT.out (by kernel_rfl) rfl (by simp[Value.oneCell']) ?_)
      obtain⟨HFr,hgr⟩:=row_end (cells:= #[.int .i64 k,.int .i64 an,.int .i64 aq,.int .i64 rg,.int .i64 nd,.int .i64 pt,.int .i64 pr,.int .i64 oc,.int .i64 dp,.int .i64 pa,.int .i64 st,.int .i64 hw,.int .i64 de,.float .f64 ex]) XT.out;obtain⟨l1,q1,f1⟩:=HFr
      refine bodyPost_ret (v:=.tuple #[.agg #[k,an,aq,rg,nd,pt,pr,oc,dp,pa,st,hw,de,.float .f64 ex],.int .i64 0]) (by simp[results,Tryz.results29,go_sem,q1,f1]) rfl ?_;exact⟨fun f h=>(by rw[HRS.out] at h;injection h with h;subst h;exact⟨rfl,bel_gr XB.out hgr (Nat.le_refl _)⟩),fun h=>(by rw[HRS.out] at h;cases h)⟩
     | false=>
      have HRN:Hid (rdFact bs=none):=qq (by
        rw[HFX.out,HEN2.out];unfold rdEnd;simp only;rw[if_pos (.inr HOK.out.symm)])
      go_wp2_with (refine wpList_store_row rfl 42 (.tmp 2) (.tmp 124) rfl (w.heap.size) #[.int .i64 0,.int .i64 0,.int .i64 0,.int .i64 0,.int .i64 0,.int .i64 0,.int .i64 0,.int .i64 0,.int .i64 0,.int .i64 0,.int .i64 0,.int .i64 0,.int .i64 0,.float .f64 0] rfl rfl 42 #[.int .i64 0,.int .i64 0,.int .i64 0,.int .i64 0,.int .i64 0,.int .i64 0,.int .i64 0,.int .i64 0,.int .i64 0,.int .i64 0,.int .i64 0,.int .i64 0,.int .i64 0,.float .f64 0] XT.out (by kernel_rfl) rfl (by simp[Value.oneCell']) ?_)
      obtain⟨HFr,hgr⟩:=row_end (cells:= #[.int .i64 0,.int .i64 0,.int .i64 0,.int .i64 0,.int .i64 0,.int .i64 0,.int .i64 0,.int .i64 0,.int .i64 0,.int .i64 0,.int .i64 0,.int .i64 0,.int .i64 0,.float .f64 0]) XT.out;obtain⟨l1,q1,f1⟩:=HFr
      refine bodyPost_ret (v:=.tuple #[.agg #[.int .i64 0,.int .i64 0,.int .i64 0,.int .i64 0,.int .i64 0,.int .i64 0,.int .i64 0,.int .i64 0,.int .i64 0,.int .i64 0,.int .i64 0,.int .i64 0,.int .i64 0,.float .f64 0],.int .i64 4]) (by simp[results,Tryz.results29,go_sem,q1,f1]) rfl ?_;exact⟨fun f h=>(by rw[HRN.out] at h;cases h),fun _=>⟨4,by decide,rfl,bel_gr XB.out hgr (Nat.le_refl _)⟩⟩
    | true=>
     have HDK:Hid (b≠decide (k=1)):=qq (by
       have h1:=hq
       cases b<;>by_cases hk:k=1<;>simp_all)
     have HRN:Hid (rdFact bs=none):=qq (by
       rw[HFX.out,HEN2.out];unfold rdEnd;simp only;rw[if_pos (.inl HDK.out)])
     have XT:=HT8;have XB:=HB8
     go_wp2_with (refine wpList_store_row rfl 42 (.tmp 2) (.tmp 124) rfl (w.heap.size) #[.int .i64 0,.int .i64 0,.int .i64 0,.int .i64 0,.int .i64 0,.int .i64 0,.int .i64 0,.int .i64 0,.int .i64 0,.int .i64 0,.int .i64 0,.int .i64 0,.int .i64 0,.float .f64 0] rfl rfl 42 #[.int .i64 0,.int .i64 0,.int .i64 0,.int .i64 0,.int .i64 0,.int .i64 0,.int .i64 0,.int .i64 0,.int .i64 0,.int .i64 0,.int .i64 0,.int .i64 0,.int .i64 0,.float .f64 0] XT.out (by kernel_rfl) rfl (by simp[Value.oneCell']) ?_)
     obtain⟨HFr,hgr⟩:=row_end (cells:= #[.int .i64 0,.int .i64 0,.int .i64 0,.int .i64 0,.int .i64 0,.int .i64 0,.int .i64 0,.int .i64 0,.int .i64 0,.int .i64 0,.int .i64 0,.int .i64 0,.int .i64 0,.float .f64 0]) XT.out;obtain⟨l1,q1,f1⟩:=HFr
     refine bodyPost_ret (v:=.tuple #[.agg #[.int .i64 0,.int .i64 0,.int .i64 0,.int .i64 0,.int .i64 0,.int .i64 0,.int .i64 0,.int .i64 0,.int .i64 0,.int .i64 0,.int .i64 0,.int .i64 0,.int .i64 0,.float .f64 0],.int .i64 4]) (by simp[results,Tryz.results29,go_sem,q1,f1]) rfl ?_;exact⟨fun f h=>(by rw[HRN.out] at h;cases h),fun _=>⟨4,by decide,rfl,bel_gr XB.out hgr (Nat.le_refl _)⟩⟩
theorem rread_of (a:Option Addr) (bs:List Nat) (cap:Nat) (w:World) (hB:BytesIn w a cap bs) (hl:bs.length≤900):Calls Tryz.prog 29 #[.slice a bs.length cap] w (RReadEnds bs w):=by
 cases hx:splitE bs.length bs 0 0 with
 | error n=>exact rread_split a bs cap n w hB hl hx
 | ok xs=>exact rread_go a bs cap xs w hB hl hx
theorem infoActI:(Tryz.prog.info? 51).map (fun i=>(i.zero,i.size,i.bytes))=some (some (.agg #[.int .i64 0,.int .i64 0,.int .i64 0,.int .i64 0,.float .f64 0,.int .i64 0,.int .i64 0,.slice none 0 0]),8,80):=by kernel_rfl
structure ActsIn (B:Nat) (v:Value) (al:List SAct) (vs:List Value) (w:World):Prop where
 len:vs.length=al.length
 row:w.ownsRow B 51 8 v al.length (actsL al vs)
 regs:∀(i:Nat) (a:SAct) (x:Value),al[i]? =some a→vs[i]? =some x→w.ownsRow B 55 6 x a.regs.length (regsL a.regs)
 apart:∀x∈vs,∀k,x.ownBlock=some k→v.ownBlock≠some k
theorem ActsIn.below {B:Nat} {v:Value} {al:List SAct} {vs:List Value} {w w':World} (h:ActsIn B v al vs w) (hb:Below w.heap.size w w'):ActsIn B v al vs w':=
 ⟨h.len,row_heap h.row (fun k hk=>hb.block k (h.row.lt k hk).2),fun i a x h1 h2=>row_heap (h.regs i a x h1 h2) (fun k hk=>hb.block k ((h.regs i a x h1 h2).lt k hk).2),h.apart⟩
theorem ActsIn.nil (B:Nat) (w:World):ActsIn B (.slice none 0 0) [] [] w:=⟨rfl,World.ownsRow_nil _ _ _ _,fun i a x h=>by simp at h,fun x h=>by cases h⟩
theorem ActsIn.snoc {B : Nat} {v v2 : Value} {al : List SAct} {vs : List Value} {w w2 : World} {a : SAct} {x : Value} (h : ActsIn B v al vs w) (hx : w.ownsRow B 55 6 x a.regs.length (regsL a.regs)) (hax : ∀ k, x.ownBlock = some k → v.ownBlock ≠ some k)
    (hr:w2.ownsRow B 51 8 v2 (al.length+1) (actsL al vs ++actL a x)) (hg:w.grownBy w2 v.ownBlock) (hat:v2.ownBlock=v.ownBlock∨v2.ownBlock=some w.heap.size):ActsIn B v2 (al ++ [a]) (vs ++ [x]) w2:=by
 have keep:∀(u:Value) (r:List SReg),w.ownsRow B 55 6 u r.length (regsL r)→(∀k,u.ownBlock=some k→v.ownBlock≠some k)→w2.ownsRow B 55 6 u r.length (regsL r):=fun u r h1 h2=>
  row_heap h1 (fun k hk=>hg.block k (h1.lt k hk).2 (fun e=>h2 k hk e.symm))
 have apart2:∀(u:Value) (r:List SReg),w.ownsRow B 55 6 u r.length (regsL r)→(∀k,u.ownBlock=some k→v.ownBlock≠some k)→∀k,u.ownBlock=some k→v2.ownBlock≠some k:=fun u r h1 h2 k hk e=>by
  rcases hat with h3 | h3
  · exact h2 k hk (by rw[←h3];exact e)
  · have:=(h1.lt k hk).2;rw[h3] at e;injection e with e
    omega
 have hl:=h.len;refine⟨by simp[h.len],?_,fun i a' x' h1 h2=> ?_,fun u hu k hk=> ?_⟩
 · rw[List.length_append];unfold actsL at hr⊢;rw[List.zip_append h.len.symm,List.flatMap_append];simpa using hr
 · by_cases hi:i<al.length
   · rw[List.getElem?_append_left hi] at h1;rw[List.getElem?_append_left (by omega)] at h2;exact keep _ _ (h.regs i a' x' h1 h2) (h.apart x' (List.mem_of_getElem? h2))
   · rw[List.getElem?_append_right (by omega)] at h1;rw[List.getElem?_append_right (by omega),hl] at h2;have e0:i - al.length=0:=by
      rcases Nat.eq_zero_or_pos (i - al.length) with e | e
      · exact e
      · rw[List.getElem?_eq_none (by simp;omega)] at h1;cases h1
     rw[e0] at h1 h2;simp at h1 h2;subst h1 h2;exact keep _ _ hx hax
 · rcases List.mem_append.1 hu with hu | hu
   · obtain⟨i,hi,rfl⟩:=List.getElem_of_mem hu;exact apart2 _ _ (h.regs i al[i] vs[i] (List.getElem?_eq_getElem (by omega)) (List.getElem?_eq_getElem hi)) (h.apart _ hu) k hk
   · obtain rfl:=List.mem_singleton.1 hu;exact apart2 _ _ hx hax k hk
theorem actL_ones (a:SAct) (v:Value) (hv:v.oneCell'=true):∀u∈actL a v,u.oneCell'=true:=by
 intro u hu;simp only[actL,List.mem_cons,List.not_mem_nil,or_false] at hu;rcases hu with rfl | rfl | rfl | rfl | rfl | rfl | rfl | rfl<;>first | rfl | exact hv
theorem acts_of (L:SLoc) (S:Sto) (w:World) (h:StoreAt L S w) (hG:StoGood S):Calls Tryz.prog 24 #[.pointer (some ⟨L.sb,0,none⟩)] w fun e w'=>∃v vs,e=.returned v∧ActsIn w.heap.size v S.acts vs w'∧Below w.heap.size w w':=by
 obtain⟨i0,ei,ez,es,eb⟩:=info_parts infoActI;obtain⟨aa,ac,hav,hal,har⟩:=ptr_row h.acts;have h8:=hG.acts;have HACT:=qq (fun W (hW:StoreAt L S W)=>hW.act);have HLEN:=qq (fun a (ha:a∈S.acts)=>(hG.act a ha).len);have H:=qq h;have hlen:=h.len;obtain⟨n,hn⟩:∃n,n=S.acts.length:=⟨_,rfl⟩
 rw[←hn] at har h8;have c2:∀W,StoreAt L S W→W.cell? ⟨L.sb,2,none⟩=some (.slice aa n ac):=fun W hW=>by have:=hW.blk.cell 2;rw[hav] at this;rw[hn];exact this
 have HC2:=qq c2;have HAR:=qq har;have HN:=qq hn;have HHL:=qq hlen;have hsb:=h.blk.lt;have q2:=c2 w h;clear h hG har hal hav c2 hn hlen;go_enter Tryz.func24,Tryz.ntmps24;go_wp2_with fail;go_loopw [3,11] (fun v i wr=>∃k:Nat,k≤n∧i=.int .i64 (k:Nat)∧Hid (∃vs,ActsIn w.heap.size v (S.acts.take k) vs wr)∧Below w.heap.size w wr) (fun _ i _=>n - (intOf i).toNat)
 case atStart=>exact⟨0,by omega,by first | rfl | go_num,qq ⟨[],by rw[List.take_zero];exact ActsIn.nil _ _⟩,by go_grown⟩
 case round=>
  obtain⟨k,hk,rfl,⟨vs,HV⟩,hB⟩:=hrel;have HVS:=qq HV;by_cases hlt:k<n
  · have hks:k<S.acts.length:=by rw[←HN.out];exact hlt
    obtain⟨g,rfl,hg,_,hpt⟩:=HAR.out (by omega);obtain⟨x,hx⟩:∃x,L.ab[k]? =some x:=⟨_,List.getElem?_eq_getElem (by rw[HHL.out];exact hks)⟩
    obtain⟨a,ha⟩:∃a,S.acts[k]? =some a:=⟨_,List.getElem?_eq_getElem hks⟩
    have HS:=qq (H.out.below hB);obtain⟨hbk,hrg⟩:=HACT.out _ HS.out k x a hx ha;have hp:=(hB.cell (p:=⟨g,k,none⟩) hg).trans (hpt k x hx);have HCP:=qq (copied_of a x.2 wr hrg (HLEN.out a (List.mem_of_getElem? ha)));have HA:=qq ha;have lk:=hbk.lt;have qk:=hbk.cell;have hki:(k:Int)<(n:Int):=by omega
    have hk0:(0:Int)≤(k:Int):=by omega
    have hgw:g<wr.heap.size:=Nat.lt_of_lt_of_le hg hB.size;have hl6:=HLEN.out a (List.mem_of_getElem? ha);have hlt8:(S.acts.take k).length=k:=by rw[List.length_take];omega
    obtain⟨av,cv,hv⟩:=row_slice HV.row;rw[hlt8] at hv;subst hv;obtain⟨xb,xv⟩:=x;obtain⟨an,aq,oc,dp,ex,pa,de,rs⟩:=a;dsimp only[actC] at*;clear hbk hrg hpt hx ha HV;go_wp2_with fail;refine HCP.out.mono ?_;rintro e w1 ⟨v',rfl,ho,hb1⟩;obtain⟨va,vc,rfl⟩:=row_slice ho;have HO:=qq (row_base ho hB.size);have HNB:=qq (fun j hj=>(ho.lt j hj).1);have HV1:=qq (HVS.out.below hb1)
    have B1:Below w.heap.size w w1:=below_then hB hb1;have hsz1:=hb1.size;clear hp qk lk ho hb1
    go_wp2_with (at_builtin;refine wpList_append_own_at _ rfl _ _ 45 rfl w.heap.size 51 i0 (.agg #[.int .i64 0,.int .i64 0,.int .i64 0,.int .i64 0,.float .f64 0,.int .i64 0,.int .i64 0,.slice none 0 0]) 8 80 Tryz.underlying45 ei ez es eb rfl (by decide) _ _ _ rfl (by have:=HV1.out.row;rw[hlt8] at this;exact row_heap this (fun k hk=>by rw[((Below.refl w1.heap.size w1).alloc (Nat.le_refl _) _).block k (this.lt k hk).2])) ⟨w1.heap.size,0,none⟩ 1 1 (actL ⟨an,aq,oc,dp,ex,pa,de,rs⟩ (.slice va rs.length vc)) (by rfl) rfl (lit_cells (Blk.fresh _ _ _ _ rfl)) (actL_ones _ _ rfl) ?d3 ?d4 ?d5 ?_)
    case d3=>unfold maxLen;omega
    case d4=>omega
    case d5=>have:=B1.size;simp;omega
    intro v2 w3 hown hgrow _ hat;have HW:=qq (show ∃vs2,ActsIn w.heap.size v2 (S.acts.take (k+1)) vs2 w3 from⟨vs ++ [.slice va rs.length vc],by
      have htk:S.acts.take (k+1)=S.acts.take k ++ [⟨an,aq,oc,dp,ex,pa,de,rs⟩]:=by
        obtain⟨hj,he⟩:=List.getElem?_eq_some_iff.1 HA.out;rw[List.take_succ_eq_append_getElem hj,he]
      rw[htk];refine ActsIn.snoc (w:=w1.alloc (.cells #[an,aq,oc,dp,.float .f64 ex,pa,de,.slice va rs.length vc] 51)) (HV1.out.below ((Below.refl w1.heap.size w1).alloc (Nat.le_refl _) _)) (row_heap HO.out (fun j hj=>((Below.refl w1.heap.size w1).alloc (Nat.le_refl _) _).block j (HO.out.lt j hj).2)) (fun j hj e=> ?_) (by rw[hlt8];exact hown) hgrow (by simpa using hat);have h1:=HNB.out j hj
      have h2:=(HVS.out.row.lt j e).2;omega⟩)
    have B3:Below w.heap.size w w3:=(B1.alloc B1.size _).grown hgrow (by have:=B1.size;simp;omega) (fun j hj=>by have:=(HVS.out.row.lt j hj).1;omega);clear hown hgrow hat;go_wp2_with fail
    all_goals (go_roundw<;>first | exact⟨k+1,by omega,by go_num,HW,B3⟩ | (simp[intOf];omega))
  · obtain rfl:k=n:=by omega
    have HF:Hid (ActsIn w.heap.size _ S.acts vs wr):=qq (by have:=HVS.out;rw[List.take_of_length_le (by rw[←HN.out];omega)] at this;exact this);obtain⟨av,cv,rfl⟩:=row_slice HF.out.row;go_wp2_with fail;go_ret;exact⟨_,vs,rfl,HF.out,hB⟩
end Go.Proofs.YtlkajejbfojkeaaGreatDoor
