/- FbG, FbH, FbI, FbJ, RfcC, Sort, TabM -/
import Derived.Test.YtlkajejbfojkeaaGreatDoorKLoSToFbF
set_option linter.unusedSimpArgs false
set_option linter.unusedVariables false
set_option maxRecDepth 100000
set_option maxHeartbeats 16000000
namespace Go.Proofs.YtlkajejbfojkeaaGreatDoor
open Go.RowKit
attribute [local go_sem] store_float
def rdEnd:Option (SFact×Bool)→Option SFact
 | none=>none
 | some (f,there)=>if there≠decide (f.k=1)∨fok f=false then none else some f
def rdRes (x:Option SFact) (a:Addr):Value:=match x with
 | some f=> .tuple #[factV f,.nilIface]
 | none=> .tuple #[factV fact00,errV a]
theorem rdFact_ok {bs:List Nat} {xs:List Fld} (h:splitE bs.length bs 0 0=.ok xs):rdFact bs=rdEnd (rdAll (fact00,false) xs):=by
 unfold rdFact;rw[h];rfl
theorem rdFact_bad {bs:List Nat} {n:Int} (h:splitE bs.length bs 0 0=.error n):rdFact bs=none:=by
 unfold rdFact;rw[h]
theorem setTag_put (f:SFact) (t:Nat) (n:Int) (h1:1≤t) (h2:t≤13):(factC f).setIfInBounds (t - 1) (.int .i64 n)=factC (setTag f t n):=by
 have:∀j:Fin 13,(factC f).setIfInBounds j.1 (.int .i64 n)=factC (setTag f (j.1+1) n):=by
  intro j
  match j with
  | 0 | 1 | 2 | 3 | 4 | 5 | 6 | 7 | 8 | 9 | 10 | 11 | 12=>rfl
 have h:=this ⟨t - 1,by omega⟩;simp only at h;rw[h,show t - 1+1=t by omega]
theorem setTag_ex (f:SFact) (t:Nat) (n:Int):(setTag f t n).ex=f.ex:=by
 unfold setTag;simp only[apply_ite SFact.ex,ite_self]
theorem put_ex (f:SFact) (u:Nat):(factC f).setIfInBounds 13 (.float .f64 u)=factC {f with ex:=u}:=rfl
theorem fltF_F64 {d:List Nat} {u:Nat} (h:fltF d=some u) (hb:∀c∈d,c<256):F64 u∧d.length=8∧u=bval d∧fplain (bval d)=bval d:=by
 unfold fltF at h;split at h
 · cases h
 · split at h
   · rename_i h1 h2
     injection h with h
     have hl:d.length=8:=by omega
     refine⟨?_,hl,h.symm,h2⟩;have:=bval_lt d hb;rw[hl,h] at this;unfold F64;simpa using this
   · cases h
theorem toflt_some (a:Option Addr) (cap:Nat) (d:List Nat) (u:Nat) (ea:Int→Addr) (w:World) (hE:Errs ea w) (hb:∀c∈d,c<256) (hD:DataC w a d) (h:fltF d=some u):Calls Tryz.prog 206 #[.slice a d.length cap] w (Makes (.tuple #[flV u,.nilIface]) w):=by
 obtain⟨_,hl,he,hp⟩:=fltF_F64 h hb;have:=toflt_of a cap d ea w hE hl hb hD;rw[if_pos hp] at this;rw[hl,he];exact this
theorem toflt_none (a:Option Addr) (cap:Nat) (d:List Nat) (ea:Int→Addr) (w:World) (hE:Errs ea w) (hb:∀c∈d,c<256) (hD:DataC w a d) (h:fltF d=none):Calls Tryz.prog 206 #[.slice a d.length cap] w (Makes (.tuple #[flV 0,errV (ea 4)]) w):=by
 by_cases hl:d.length=8
 · have:=toflt_of a cap d ea w hE hl hb hD;have hp:¬fplain (bval d)=bval d:=fun e=>by unfold fltF at h;rw[if_neg (by omega),if_pos e] at h;cases h
   rw[if_neg hp] at this;rw[hl];exact this
 · exact toflt_len a cap d.length ea w hE hl
def rdNext (t:List Fld):Option (SFact×Bool)→Option (SFact×Bool)
 | none=>none
 | some s=>rdAll s t
theorem rdAll_cons (s:SFact×Bool) (x:Fld) (t:List Fld):rdAll s (x::t)=rdNext t (rdStep s x):=by
 conv=>lhs;unfold rdAll
 cases rdStep s x<;>rfl
theorem rdStep_none {s:SFact×Bool} {x:Fld} {t:List Fld} (h:rdStep s x=none):rdAll s (x::t)=none:=by rw[rdAll_cons,h];rfl
theorem rdStep_some {s s':SFact×Bool} {x:Fld} {t:List Fld} (h:rdStep s x=some s'):rdAll s (x::t)=rdAll s' t:=by rw[rdAll_cons,h];rfl
theorem read_go (a : Option Addr) (bs : List Nat) (cap : Nat) (xs : List Fld) (ea : Int → Addr) (w : World) (hE : EnvS ea w) (hw3 : 3 < w.heap.size) (hB : BytesIn w a cap bs) (hl : bs.length ≤ 900) (hx : splitE bs.length bs 0 0 = .ok xs) :
    Calls Tryz.prog 103 #[.slice a bs.length cap] w (Makes (rdRes (rdFact bs) (ea 4)) w):=by
 obtain⟨rv,hrv⟩:∃v,v=rdRes (rdFact bs) (ea 4):=⟨_,rfl⟩
 rw[←hrv];rw[rdFact_ok hx] at hrv;have HRV:=qq hrv;have HALL:=qq (splitE_all _ _ _ _ _ hx hB.byte (by omega));have HSP:=qq (fun W (hb:Below w.heap.size w W)=>split_ok a bs cap xs ea W (hE.below hb).e (hB.below hb) hl hx);have HEN:=qq (fun W (hb:Below w.heap.size w W)=>hE.below hb);have HPL:=qq (fun fb W=>places_of fb W);simp only[plA] at HPL
 have HT2:Hid ((w.alloc (.cells #[.int .i64 0,.int .i64 0,.int .i64 0,.int .i64 0,.int .i64 0,.int .i64 0,.int .i64 0,.int .i64 0,.int .i64 0,.int .i64 0,.int .i64 0,.int .i64 0,.int .i64 0,.float .f64 0] 39)).heap[w.heap.size]? =some (.cells #[.int .i64 0,.int .i64 0,.int .i64 0,.int .i64 0,.int .i64 0,.int .i64 0,.int .i64 0,.int .i64 0,.int .i64 0,.int .i64 0,.int .i64 0,.int .i64 0,.int .i64 0,.float .f64 0] 39 (0,0))):=qq (heap_alloc_new _ _)
 clear hE hB hx hrv;go_enter Tryz.func103,Tryz.ntmps103;go_wp2_with fail;refine(HSP.out _ (by go_grown)).mono ?_;rintro e w1 ⟨a1,n1,c1,rfl,hrf,hb1⟩;obtain⟨a2,cap2,hv,hr⟩:=hrf;simp only[Value.slice.injEq] at hv;obtain⟨rfl,rfl,rfl⟩:=hv;have HRF:=qq hr;have HT3:=qq (hp_be HT2.out hb1);have HB1:=qq (below_then (show Below w.heap.size w _ from by go_grown) hb1);have hz1:=hb1.size
 simp only[World.size_alloc] at hz1;obtain⟨N,hN⟩:∃n,n=xs.length:=⟨_,rfl⟩
 have HNN:=qq hN;have hN16:N≤16:=by have:=HALL.out.1;omega
 rw[←hN];clear hr hb1 hN HT2;go_wp2_with fail;refine(HPL.out _ _).mono ?_;rintro e w2 ⟨rfl,hb2⟩;obtain⟨fb,hfb⟩:∃n,n=w1.heap.size:=⟨_,rfl⟩
 have HFB:=qq hfb;have HF2:Hid (Blk w2 fb (factC fact00)):=qq (by rw[hfb];exact(Blk.fresh w1 (factC fact00) 39 _ rfl).below hb2);have HT4:=qq (hp_be (hp_al HT3.out (.cells #[.int .i64 0,.int .i64 0,.int .i64 0,.int .i64 0,.int .i64 0,.int .i64 0,.int .i64 0,.int .i64 0,.int .i64 0,.int .i64 0,.int .i64 0,.int .i64 0,.int .i64 0,.float .f64 0] 39)) hb2)
 have HB2:=qq (below_then (bel_alloc HB1.out _) hb2);have HD2:=qq (below_then (bel_alloc (Below.refl w1.heap.size w1) (.cells #[.int .i64 0,.int .i64 0,.int .i64 0,.int .i64 0,.int .i64 0,.int .i64 0,.int .i64 0,.int .i64 0,.int .i64 0,.int .i64 0,.int .i64 0,.int .i64 0,.int .i64 0,.float .f64 0] 39)) hb2);have hz2:=hb2.size;simp only[World.size_alloc] at hz2;rw[←hfb] at hz1 hz2⊢
 have hwz:=HB2.out.size;clear hb2 HT3 HB1 hfb;go_wp2_with fail
 go_loopw [24,8] (fun cc uu wr=>∃(i:Nat) (f:SFact) (b:Bool),i≤N∧cc=.int .i64 (i:Int)∧uu=.bool b∧Hid (rdAll (fact00,false) xs=rdAll (f,b) (xs.drop i))∧Hid (F64 f.ex)∧Hid (wr.heap[w.heap.size]? =some (.cells #[.int .i64 0,.int .i64 0,.int .i64 0,.int .i64 0,.int .i64 0,.int .i64 0,.int .i64 0,.int .i64 0,.int .i64 0,.int .i64 0,.int .i64 0,.int .i64 0,.int .i64 0,.float .f64 0] 39 (0,0)))∧Hid (Blk wr fb (factC f))∧Hid (Blk wr w2.heap.size (plA fb))∧Hid (Below w.heap.size w wr)∧Hid (Below w1.heap.size w1 wr)) (fun cc _ _=>N - (intOf cc).toNat)
 case atStart=>exact⟨0,fact00,false,by omega,by first | rfl | go_num,by first | rfl | trivial,qq rfl,qq (by unfold F64;decide),qq (hp_al HT4.out _),qq (HF2.out.alloc _),qq (Blk.fresh w2 (plA fb) _ _ rfl),qq (bel_alloc HB2.out _),qq (bel_alloc HD2.out _)⟩
 case round=>
  obtain⟨i,f,b,hi,rfl,rfl,HR,HX,HT,HF,HP,HB,HD⟩:=hrel;have hi0:(0:Int)≤(i:Int):=by omega
  by_cases hlt:i<N
  · obtain⟨x,hx⟩:∃x,xs[i]? =some x:=⟨_,List.getElem?_eq_getElem (by have:=HNN.out;omega)⟩
    have hi1:(i:Int)<(N:Int):=by omega
    obtain⟨g,rfl,hg,da,dc,h0,h1,h2⟩:=HRF.out i x hx;have c0:=(HD.out.cell (p:=⟨g,i*2,none⟩) hg).trans h0;have c1:=(HD.out.cell (p:=⟨g,i*2+1,none⟩) hg).trans h1;have HXA:=qq (HALL.out.2 x (List.mem_of_getElem? hx));have HDC:Hid (∀W,Below w1.heap.size w1 W→DataC W da x.d):=qq (fun W hW=>(show DataC w1 da x.d from h2).below hW)
    have HDR:Hid (xs.drop i=x::xs.drop (i+1)):=qq (by obtain⟨hil,he⟩:=List.getElem?_eq_some_iff.1 hx;rw[List.drop_eq_getElem_cons hil,he]);have ht1:=HXA.out.1;have ht2:=HXA.out.2.1;obtain⟨t,d⟩:=x;dsimp only at*;obtain⟨nd,hnd⟩:∃n,n=d.length:=⟨_,rfl⟩
    have hnd2:nd≤200:=by have:=HXA.out.2.2.1;omega
    have HND:=qq hnd;rw[←hnd] at c1;have HWA:=qq (hp_al HT.out (.cells #[(t:Int),.slice da nd dc] 184));have HFA:=qq (HF.out.alloc (.cells #[(t:Int),.slice da nd dc] 184));have HPA:=qq (HP.out.alloc (.cells #[(t:Int),.slice da nd dc] 184));have HBA:=qq (bel_alloc HB.out (.cells #[(t:Int),.slice da nd dc] 184));have HDA:=qq (bel_alloc HD.out (.cells #[(t:Int),.slice da nd dc] 184))
    have HXC:=qq (Blk.fresh wr #[(t:Int),.slice da nd dc] 184 _ rfl);have hfl:=HF.out.lt;have hpl:=HP.out.lt;have hwr:=HB.out.size;have HC4:Hid (∀W,Below w.heap.size w W→W.cell? ⟨3,0,none⟩=some (errV (ea 4))):=qq (fun W hW=>(HEN.out W hW).e.e4);clear hx h0 h1 h2 hnd hlt HT HF HP HB HD;by_cases h14:t=14
    · subst h14;have hstep:Hid (∀s:SFact×Bool,rdStep s ⟨14,d⟩=(fltF d).map fun u=>({s.1 with ex:=u},true)):=qq (fun s=>rfl)
      cases hq:fltF d with
      | none=>
       have HE:=qq (rdStep_none (t:=xs.drop (i+1)) (show rdStep (f,b) ⟨14,d⟩=none by rw[hstep.out,hq];rfl));have HRN:Hid (rv=rdRes none (ea 4)):=qq (by rw[HRV.out,HR.out,HDR.out,HE.out];rfl);have HTF:=qq (fun W (hW:Below w1.heap.size w1 W) (hV:Below w.heap.size w W)=>toflt_none da dc d ea W (HEN.out W hV).e HXA.out.2.2.2 (HDC.out W hW) hq);rw[←HND.out] at HTF;clear hq;have c4:=HC4.out _ HBA.out
       go_wp2_with fail;refine(HTF.out _ HDA.out HBA.out).mono ?_;rintro e w3 ⟨rfl,hb3⟩;have HT3:=qq (hp_be HWA.out hb3);have HF3:=qq (HFA.out.below hb3);have HP3:=qq (HPA.out.below hb3);have HB3:=qq (below_then HBA.out hb3);have HD3:=qq (below_then HDA.out hb3);have hz3:=hb3.size;simp only[World.size_alloc] at hz3;have XB:=bel_set HB3.out (p:=⟨fb,13,none⟩) (by dsimp only;omega) (flV 0)
       have XT:=hp_st HT3.out (p:=⟨fb,13,none⟩) (by dsimp only;omega) (flV 0);have HXB:=qq XB;have HXT:=qq XT;have HXD:=qq (bel_set HD3.out (p:=⟨fb,13,none⟩) (by have:=HFB.out;dsimp only;omega) (flV 0));have HXP:=qq (HP3.out.other (p:=⟨fb,13,none⟩) (by have:=HFB.out;dsimp only;omega) (flV 0))
       have HXF:Hid (Blk (w3.setCell ⟨fb,13,none⟩ (flV 0)) fb (factC {f with ex:=0})):=qq (by rw[←put_ex];exact HF3.out.set' 13 (by simp[factC]) _);obtain⟨l3,q3,f3⟩:=HF3.out;have q13:=q3 13;have f13:=f3 13;clear hb3 XB XT q3 f3 c4;go_wp2_with fail;have XB:=bel_drew HXB.out;have XC4:=HC4.out _ XB;have XT2:=hp_dr HXT.out
       refine reg_start2 (fun w'=>w'.cell? ⟨3,0,none⟩=some (errV (ea 4))∧Below w.heap.size w w') (fun w'=>w'.heap[w.heap.size]? =some (.cells #[.int .i64 0,.int .i64 0,.int .i64 0,.int .i64 0,.int .i64 0,.int .i64 0,.int .i64 0,.int .i64 0,.int .i64 0,.int .i64 0,.int .i64 0,.int .i64 0,.int .i64 0,.float .f64 0] 39 (0,0))) (by kernel_rfl) ⟨XC4,XB⟩ XT2 ?_;rintro w5 hHeld hT5
       refine takeM (v:=.agg #[.int .i64 0,.int .i64 0,.int .i64 0,.int .i64 0,.int .i64 0,.int .i64 0,.int .i64 0,.int .i64 0,.int .i64 0,.int .i64 0,.int .i64 0,.int .i64 0,.int .i64 0,.float .f64 0]) (d:=some 64) 0 rfl rfl hHeld (fun w' _=>by go_simp;(try rfl)) ?_;simp only[puts];refine takeM (d:=some 65) 1 rfl rfl hHeld (fun w' hS'=>by have qA:=hS'.1;clear hS';go_simp;(try rfl)) ?_
       simp only[puts];refine one_M 2 (by kernel_rfl) ?_
       refine row_M 2 39 (.tmp 2) (.tmp 64) rfl rfl rfl (w.heap.size) #[.int .i64 0,.int .i64 0,.int .i64 0,.int .i64 0,.int .i64 0,.int .i64 0,.int .i64 0,.int .i64 0,.int .i64 0,.int .i64 0,.int .i64 0,.int .i64 0,.int .i64 0,.float .f64 0] #[.int .i64 0,.int .i64 0,.int .i64 0,.int .i64 0,.int .i64 0,.int .i64 0,.int .i64 0,.int .i64 0,.int .i64 0,.int .i64 0,.int .i64 0,.int .i64 0,.int .i64 0,.float .f64 0] 39 hT5 rfl rfl (by kernel_rfl) rfl (by simp[Value.oneCell']) ?_
       rintro w6 hK6 hg6;have hg3:(3:Nat)≠w.heap.size:=fun e=>by omega
       refine⟨⟨?_,bel_gr hHeld.2 hg6 (Nat.le_refl _)⟩,fun hHeld=> ?_⟩
       · have h3:=hg6.block 3 (by have:=hHeld.2.size;omega) (fun e=>hg3 (by injection e));have h4:=hHeld.1;rw[←h4];simp[World.cell?,h3]
       refine takeM (d:=some 3) 3 rfl rfl hHeld (fun w' _=>by go_simp;(try rfl)) ?_;simp only[puts];refine doneM (by kernel_rfl) ?_ _;have hB6:=hHeld.2;obtain⟨l6,q6,f6⟩:=hK6;clear hHeld hT5 hg6;go_wp2_with fail
       refine bodyPost_ret (v:=.tuple #[.agg #[.int .i64 0,.int .i64 0,.int .i64 0,.int .i64 0,.int .i64 0,.int .i64 0,.int .i64 0,.int .i64 0,.int .i64 0,.int .i64 0,.int .i64 0,.int .i64 0,.int .i64 0,.float .f64 0],errV (ea 4)]) (by simp[results,Tryz.results103,go_sem,q6,f6]) rfl ?_;exact⟨by rw[HRN.out];rfl,hB6⟩
      | some u=>
       have HE:=qq (rdStep_some (t:=xs.drop (i+1)) (show rdStep (f,b) ⟨14,d⟩=some ({f with ex:=u},true) by rw[hstep.out,hq];rfl));have HU:=qq (fltF_F64 hq HXA.out.2.2.2).1;have HTF:=qq (fun W (hW:Below w1.heap.size w1 W) (hV:Below w.heap.size w W)=>toflt_some da dc d u ea W (HEN.out W hV).e HXA.out.2.2.2 (HDC.out W hW) hq);rw[←HND.out] at HTF;clear hq;have c4:=HC4.out _ HBA.out;go_wp2_with fail
       refine(HTF.out _ HDA.out HBA.out).mono ?_;rintro e w3 ⟨rfl,hb3⟩;have HT3:=qq (hp_be HWA.out hb3);have HF3:=qq (HFA.out.below hb3);have HP3:=qq (HPA.out.below hb3);have HB3:=qq (below_then HBA.out hb3);have HD3:=qq (below_then HDA.out hb3);have hz3:=hb3.size;simp only[World.size_alloc] at hz3;have XB:=bel_set HB3.out (p:=⟨fb,13,none⟩) (by dsimp only;omega) (flV u)
       have XT:=hp_st HT3.out (p:=⟨fb,13,none⟩) (by dsimp only;omega) (flV u);have HXB:=qq XB;have HXT:=qq XT;have HXD:=qq (bel_set HD3.out (p:=⟨fb,13,none⟩) (by have:=HFB.out;dsimp only;omega) (flV u));have HXP:=qq (HP3.out.other (p:=⟨fb,13,none⟩) (by have:=HFB.out;dsimp only;omega) (flV u))
       have HXF:Hid (Blk (w3.setCell ⟨fb,13,none⟩ (flV u)) fb (factC {f with ex:=u})):=qq (by rw[←put_ex];exact HF3.out.set' 13 (by simp[factC]) _);obtain⟨l3,q3,f3⟩:=HF3.out;have q13:=q3 13;have f13:=f3 13;clear hb3 XB XT q3 f3 c4;go_wp2_with fail;go_roundw
       case rel=>exact⟨i+1,{f with ex:=u},true,by omega,by go_num,by first | rfl | exact True.intro,qq (by rw[HR.out,HDR.out,HE.out]),HU,HXT,HXF,HXP,HXB,HXD⟩
       case measure=>simp[intOf];omega
    · have hq14:((t:Int)==14)=false:=by simpa using(show ¬(t:Int)=14 by omega)
      by_cases hgt:14<t∨nd=0
      · have HE:=qq (rdStep_none (t:=xs.drop (i+1)) (show rdStep (f,b) ⟨t,d⟩=none by
          unfold rdStep;rw[if_neg h14,if_pos (by rcases hgt with h | h;exact .inl h;exact .inr (List.length_eq_zero_iff.1 (by rw[←HND.out];exact h)))]))
        have HRN:Hid (rv=rdRes none (ea 4)):=qq (by rw[HRV.out,HR.out,HDR.out,HE.out];rfl);have c4:=HC4.out _ HBA.out;have hcut:(14<t)∨(t≤14∧nd=0):=by omega
        clear hgt;have XB0:=HBA.out;have XT0:=HWA.out;rcases hcut with h | ⟨h,h0⟩
        · have hh:(14:Int)<(t:Int):=by omega
          clear h XB0 XT0;go_wp2_with fail;have XB:=bel_drew HBA.out;have XC4:=HC4.out _ XB;have XT2:=hp_dr HWA.out
          refine reg_start2 (fun w'=>w'.cell? ⟨3,0,none⟩=some (errV (ea 4))∧Below w.heap.size w w') (fun w'=>w'.heap[w.heap.size]? =some (.cells #[.int .i64 0,.int .i64 0,.int .i64 0,.int .i64 0,.int .i64 0,.int .i64 0,.int .i64 0,.int .i64 0,.int .i64 0,.int .i64 0,.int .i64 0,.int .i64 0,.int .i64 0,.float .f64 0] 39 (0,0))) (by kernel_rfl) ⟨XC4,XB⟩ XT2 ?_;rintro w5 hHeld hT5
          refine takeM (v:=.agg #[.int .i64 0,.int .i64 0,.int .i64 0,.int .i64 0,.int .i64 0,.int .i64 0,.int .i64 0,.int .i64 0,.int .i64 0,.int .i64 0,.int .i64 0,.int .i64 0,.int .i64 0,.float .f64 0]) (d:=some 64) 0 rfl rfl hHeld (fun w' _=>by go_simp;(try rfl)) ?_;simp only[puts];refine takeM (d:=some 65) 1 rfl rfl hHeld (fun w' hS'=>by have qA:=hS'.1;clear hS';go_simp;(try rfl)) ?_
          simp only[puts];refine one_M 2 (by kernel_rfl) ?_
          refine row_M 2 39 (.tmp 2) (.tmp 64) rfl rfl rfl (w.heap.size) #[.int .i64 0,.int .i64 0,.int .i64 0,.int .i64 0,.int .i64 0,.int .i64 0,.int .i64 0,.int .i64 0,.int .i64 0,.int .i64 0,.int .i64 0,.int .i64 0,.int .i64 0,.float .f64 0] #[.int .i64 0,.int .i64 0,.int .i64 0,.int .i64 0,.int .i64 0,.int .i64 0,.int .i64 0,.int .i64 0,.int .i64 0,.int .i64 0,.int .i64 0,.int .i64 0,.int .i64 0,.float .f64 0] 39 hT5 rfl rfl (by kernel_rfl) rfl (by simp[Value.oneCell']) ?_
          rintro w6 hK6 hg6;have hg3:(3:Nat)≠w.heap.size:=fun e=>by omega
          refine⟨⟨?_,bel_gr hHeld.2 hg6 (Nat.le_refl _)⟩,fun hHeld=> ?_⟩
          · have h3:=hg6.block 3 (by have:=hHeld.2.size;omega) (fun e=>hg3 (by injection e));have h4:=hHeld.1;rw[←h4];simp[World.cell?,h3]
          refine takeM (d:=some 3) 3 rfl rfl hHeld (fun w' _=>by go_simp;(try rfl)) ?_;simp only[puts];refine doneM (by kernel_rfl) ?_ _;have hB6:=hHeld.2;obtain⟨l6,q6,f6⟩:=hK6;clear hHeld hT5 hg6;go_wp2_with fail
          refine bodyPost_ret (v:=.tuple #[.agg #[.int .i64 0,.int .i64 0,.int .i64 0,.int .i64 0,.int .i64 0,.int .i64 0,.int .i64 0,.int .i64 0,.int .i64 0,.int .i64 0,.int .i64 0,.int .i64 0,.int .i64 0,.float .f64 0],errV (ea 4)]) (by simp[results,Tryz.results103,go_sem,q6,f6]) rfl ?_;exact⟨by rw[HRN.out];rfl,hB6⟩
        · have hh:¬(14:Int)<(t:Int):=by omega
          subst h0;clear h XB0 XT0;go_wp2_with fail;have XB:=bel_drew HBA.out;have XC4:=HC4.out _ XB;have XT2:=hp_dr HWA.out
          refine reg_start2 (fun w'=>w'.cell? ⟨3,0,none⟩=some (errV (ea 4))∧Below w.heap.size w w') (fun w'=>w'.heap[w.heap.size]? =some (.cells #[.int .i64 0,.int .i64 0,.int .i64 0,.int .i64 0,.int .i64 0,.int .i64 0,.int .i64 0,.int .i64 0,.int .i64 0,.int .i64 0,.int .i64 0,.int .i64 0,.int .i64 0,.float .f64 0] 39 (0,0))) (by kernel_rfl) ⟨XC4,XB⟩ XT2 ?_;rintro w5 hHeld hT5
          refine takeM (v:=.agg #[.int .i64 0,.int .i64 0,.int .i64 0,.int .i64 0,.int .i64 0,.int .i64 0,.int .i64 0,.int .i64 0,.int .i64 0,.int .i64 0,.int .i64 0,.int .i64 0,.int .i64 0,.float .f64 0]) (d:=some 64) 0 rfl rfl hHeld (fun w' _=>by go_simp;(try rfl)) ?_;simp only[puts];refine takeM (d:=some 65) 1 rfl rfl hHeld (fun w' hS'=>by have qA:=hS'.1;clear hS';go_simp;(try rfl)) ?_
          simp only[puts];refine one_M 2 (by kernel_rfl) ?_
          refine row_M 2 39 (.tmp 2) (.tmp 64) rfl rfl rfl (w.heap.size) #[.int .i64 0,.int .i64 0,.int .i64 0,.int .i64 0,.int .i64 0,.int .i64 0,.int .i64 0,.int .i64 0,.int .i64 0,.int .i64 0,.int .i64 0,.int .i64 0,.int .i64 0,.float .f64 0] #[.int .i64 0,.int .i64 0,.int .i64 0,.int .i64 0,.int .i64 0,.int .i64 0,.int .i64 0,.int .i64 0,.int .i64 0,.int .i64 0,.int .i64 0,.int .i64 0,.int .i64 0,.float .f64 0] 39 hT5 rfl rfl (by kernel_rfl) rfl (by simp[Value.oneCell']) ?_
          rintro w6 hK6 hg6;have hg3:(3:Nat)≠w.heap.size:=fun e=>by omega
          refine⟨⟨?_,bel_gr hHeld.2 hg6 (Nat.le_refl _)⟩,fun hHeld=> ?_⟩
          · have h3:=hg6.block 3 (by have:=hHeld.2.size;omega) (fun e=>hg3 (by injection e));have h4:=hHeld.1;rw[←h4];simp[World.cell?,h3]
          refine takeM (d:=some 3) 3 rfl rfl hHeld (fun w' _=>by go_simp;(try rfl)) ?_;simp only[puts];refine doneM (by kernel_rfl) ?_ _;have hB6:=hHeld.2;obtain⟨l6,q6,f6⟩:=hK6;clear hHeld hT5 hg6;go_wp2_with fail
          refine bodyPost_ret (v:=.tuple #[.agg #[.int .i64 0,.int .i64 0,.int .i64 0,.int .i64 0,.int .i64 0,.int .i64 0,.int .i64 0,.int .i64 0,.int .i64 0,.int .i64 0,.int .i64 0,.int .i64 0,.int .i64 0,.float .f64 0],errV (ea 4)]) (by simp[results,Tryz.results103,go_sem,q6,f6]) rfl ?_;exact⟨by rw[HRN.out];rfl,hB6⟩
      · have hcut:t≤13∧0<nd:=by omega
        obtain⟨ht13,hnp⟩:=hcut;clear hgt h14;have hng:¬(14:Int)<(t:Int):=by omega
        have hnp0:((nd:Int)==0)=false:=by simpa using(show ¬(nd:Int)=0 by omega)
        have HRS:Hid (rdStep (f,b) ⟨t,d⟩=(numF d).map fun(n:Nat)=>(setTag f t (n:Int),b)):=qq (by
          unfold rdStep;rw[if_neg (show ¬t=14 by omega),if_neg (by have:=HND.out;intro h;rcases h with h | h;exact absurd h (by dsimp only;omega);subst h;simp at this;omega)])
        have hw1:IntKind.i64.wrap ((t:Int) - 1)=((t - 1:Nat):Int):=by have h:=IntWalk.i64_in ((t:Int) - 1) (by omega);rw[h];omega
        obtain⟨t1,ht⟩:∃n,n=t - 1:=⟨_,rfl⟩
        have HTT:=qq ht;rw[←ht] at hw1;have ht14:t1<13:=by omega
        have HPB:=qq (plA_at fb t1 ht14);clear ht;have hi13:(t1:Int)<13:=by omega
        have hi10:(0:Int)≤(t1:Int):=by omega
        go_wp2_with fail
        refine reg_start2 (fun w'=>Blk w' wr.heap.size #[(t:Int),.slice da nd dc]∧w'.cell? ⟨w2.heap.size,t1,none⟩=some (.pointer (some ⟨fb,t1,none⟩))) (fun W=>(W.heap[w.heap.size]? =some (.cells #[.int .i64 0,.int .i64 0,.int .i64 0,.int .i64 0,.int .i64 0,.int .i64 0,.int .i64 0,.int .i64 0,.int .i64 0,.int .i64 0,.int .i64 0,.int .i64 0,.int .i64 0,.float .f64 0] 39 (0,0))∧Blk W fb (factC f)∧Blk W w2.heap.size (plA fb))∧Below w.heap.size w W∧Below w1.heap.size w1 W) (by kernel_rfl) ⟨HXC.out.drew,((HPA.out.drew.cell t1).trans HPB.out)⟩ ⟨⟨hp_dr HWA.out,HFA.out.drew,HPA.out.drew⟩,bel_drew HBA.out,bel_drew HDA.out⟩ ?_
        rintro w5 hHeld ⟨⟨hT5,hF5,hP5⟩,hB5,hD5⟩;have HT5:=qq hT5;have HF5:=qq hF5;have HP5:=qq hP5;have HB5:=qq hB5;have HD5:=qq hD5;clear hT5 hF5 hP5 hB5 hD5;refine takeM (d:=some 29) 0 rfl rfl hHeld (fun w' _=>by go_simp;(try rfl)) ?_;simp only[puts];refine takeM (d:=some 30) 1 rfl rfl hHeld (fun w' hS'=>by have qA:=hS'.1.cell;clear hS';go_simp;(try rfl)) ?_;simp only[puts]
        refine takeM (v:=.int .i64 (t1:Int)) (d:=some 31) 2 rfl rfl hHeld (fun w' _=>by go_simp;(try rfl)) ?_;simp only[puts];refine takeM (v:=.pointer (some ⟨w2.heap.size,t1,none⟩)) (d:=some 32) 3 rfl rfl hHeld (fun w' _=>by go_simp;(try rfl)) ?_;simp only[puts];refine takeM (d:=some 33) 4 rfl rfl hHeld (fun w' hS'=>by have qA:=hS'.2;clear hS';go_simp;(try rfl)) ?_;simp only[puts]
        refine takeM (d:=some 34) 5 rfl rfl hHeld (fun w' _=>by go_simp;(try rfl)) ?_;simp only[puts];refine takeM (d:=some 35) 6 rfl rfl hHeld (fun w' hS'=>by have qA:=hS'.1.cell;clear hS';go_simp;(try rfl)) ?_;simp only[puts];refine one_M 7 (by kernel_rfl) ?_;refine wpOp_call (d:=some 36) 7 207 _ _ [.slice da nd dc] rfl rfl rfl (enters_of Tryz.func207 (by kernel_rfl) rfl) (by rfl) (by rfl) ?_
        cases hq:numF d with
        | none=>
         obtain⟨kk,hk1,hk2,hTN⟩:=tonum_bad da dc d ea w5 (HEN.out _ HB5.out).e HXA.out.2.2.2 (HDC.out _ HD5.out) (by rw[←HND.out];omega) hq;rw[←HND.out] at hTN;have HE:=qq (rdStep_none (t:=xs.drop (i+1)) (show rdStep (f,b) ⟨t,d⟩=none by rw[HRS.out,hq];rfl));have HRN:Hid (rv=rdRes none (ea 4)):=qq (by rw[HRV.out,HR.out,HDR.out,HE.out];rfl);refine hTN.mono ?_;clear hTN hq;rintro e w6 ⟨rfl,hb6⟩
         have HT6:=qq (hp_be HT5.out hb6);have HF6:=qq (HF5.out.below hb6);have HP6:=qq (HP5.out.below hb6);have HB6:=qq (below_then HB5.out hb6);have HD6:=qq (below_then HD5.out hb6);have hz6:=hb6.size;have hX6:=hHeld.1.below hb6;clear hHeld hb6;refine ret_S ⟨hX6,(HP6.out.cell t1).trans HPB.out⟩ (fun hHeld=> ?_);simp only[puts]
         refine takeM (d:=some 28) 8 rfl rfl hHeld (fun w' _=>by go_simp;(try rfl)) ?_;simp only[puts];refine takeM (d:=some 37) 9 rfl rfl hHeld (fun w' _=>by go_simp;(try rfl)) ?_;simp only[puts];refine takeM (d:=some 38) 10 rfl rfl hHeld (fun w' _=>by go_simp;(try rfl)) ?_;simp only[puts];refine takeM (d:=some 39) 11 rfl rfl hHeld (fun w' _=>by go_simp;(try rfl)) ?_;simp only[puts]
         refine one_M 12 (by kernel_rfl) ?_;have hfp:fb<wr.heap.size:=by omega
         obtain⟨l6,q6,f6⟩:=HF6.out;have hq6:(w6.cell? ⟨fb,t1,none⟩).isSome=true:=by rw[q6];simp[factC];omega
         obtain⟨old,hold⟩:=Option.isSome_iff_exists.1 hq6;have hf6:=f6 t1;clear q6 f6 hq6;refine set_M 12 (w6.setCell ⟨fb,t1,none⟩ (.int .i64 0)) rfl rfl (by go_simp) ⟨hHeld.1.other (by dsimp only;omega) _,(((HP6.out.other (p:=⟨fb,t1,none⟩) (by have:=HFB.out;dsimp only;omega) _).cell t1).trans HPB.out)⟩ ?_;rintro hHeld;refine takeM (d:=some 11) 13 rfl rfl hHeld (fun w' _=>by go_simp;(try rfl)) ?_
         simp only[puts];refine doneM (by kernel_rfl) ?_ _;clear hHeld hX6 hold;have XB:=bel_set HB6.out (p:=⟨fb,t1,none⟩) (by dsimp only;omega) ((.int .i64 0));have HXB:=qq XB;have HXT:=qq (hp_st HT6.out (p:=⟨fb,t1,none⟩) (by dsimp only;omega) ((.int .i64 0)));have HXD:=qq (bel_set HD6.out (p:=⟨fb,t1,none⟩) (by have:=HFB.out;dsimp only;omega) ((.int .i64 0)))
         have HXP:=qq (HP6.out.other (p:=⟨fb,t1,none⟩) (by have:=HFB.out;dsimp only;omega) ((.int .i64 0)));clear XB;go_wp2_with fail;have XB:=bel_drew HXB.out;have XC4:=HC4.out _ XB;have XT2:=hp_dr HXT.out
         refine reg_start2 (fun w'=>w'.cell? ⟨3,0,none⟩=some (errV (ea 4))∧Below w.heap.size w w') (fun w'=>w'.heap[w.heap.size]? =some (.cells #[.int .i64 0,.int .i64 0,.int .i64 0,.int .i64 0,.int .i64 0,.int .i64 0,.int .i64 0,.int .i64 0,.int .i64 0,.int .i64 0,.int .i64 0,.int .i64 0,.int .i64 0,.float .f64 0] 39 (0,0))) (by kernel_rfl) ⟨XC4,XB⟩ XT2 ?_;rintro w5 hHeld hT5
         refine takeM (v:=.agg #[.int .i64 0,.int .i64 0,.int .i64 0,.int .i64 0,.int .i64 0,.int .i64 0,.int .i64 0,.int .i64 0,.int .i64 0,.int .i64 0,.int .i64 0,.int .i64 0,.int .i64 0,.float .f64 0]) (d:=some 64) 0 rfl rfl hHeld (fun w' _=>by go_simp;(try rfl)) ?_;simp only[puts];refine takeM (d:=some 65) 1 rfl rfl hHeld (fun w' hS'=>by have qA:=hS'.1;clear hS';go_simp;(try rfl)) ?_
         simp only[puts];refine one_M 2 (by kernel_rfl) ?_
         refine row_M 2 39 (.tmp 2) (.tmp 64) rfl rfl rfl (w.heap.size) #[.int .i64 0,.int .i64 0,.int .i64 0,.int .i64 0,.int .i64 0,.int .i64 0,.int .i64 0,.int .i64 0,.int .i64 0,.int .i64 0,.int .i64 0,.int .i64 0,.int .i64 0,.float .f64 0] #[.int .i64 0,.int .i64 0,.int .i64 0,.int .i64 0,.int .i64 0,.int .i64 0,.int .i64 0,.int .i64 0,.int .i64 0,.int .i64 0,.int .i64 0,.int .i64 0,.int .i64 0,.float .f64 0] 39 hT5 rfl rfl (by kernel_rfl) rfl (by simp[Value.oneCell']) ?_
         rintro w6 hK6 hg6;have hg3:(3:Nat)≠w.heap.size:=fun e=>by omega
         refine⟨⟨?_,bel_gr hHeld.2 hg6 (Nat.le_refl _)⟩,fun hHeld=> ?_⟩
         · have h3:=hg6.block 3 (by have:=hHeld.2.size;omega) (fun e=>hg3 (by injection e));have h4:=hHeld.1;rw[←h4];simp[World.cell?,h3]
         refine takeM (d:=some 3) 3 rfl rfl hHeld (fun w' _=>by go_simp;(try rfl)) ?_;simp only[puts];refine doneM (by kernel_rfl) ?_ _;have hB6:=hHeld.2;obtain⟨l6,q6,f6⟩:=hK6;clear hHeld hT5 hg6;go_wp2_with fail
         refine bodyPost_ret (v:=.tuple #[.agg #[.int .i64 0,.int .i64 0,.int .i64 0,.int .i64 0,.int .i64 0,.int .i64 0,.int .i64 0,.int .i64 0,.int .i64 0,.int .i64 0,.int .i64 0,.int .i64 0,.int .i64 0,.float .f64 0],errV (ea 4)]) (by simp[results,Tryz.results103,go_sem,q6,f6]) rfl ?_;exact⟨by rw[HRN.out];rfl,hB6⟩
        | some n=>
         have hTN:=tonum_ok da dc d n w5 HXA.out.2.2.2 (HDC.out _ HD5.out) hq;rw[←HND.out] at hTN;have HE:=qq (rdStep_some (t:=xs.drop (i+1)) (show rdStep (f,b) ⟨t,d⟩=some (setTag f t n,b) by rw[HRS.out,hq];rfl));refine hTN.mono ?_;clear hTN hq;rintro e w6 ⟨rfl,hb6⟩;have HT6:=qq (hp_be HT5.out hb6);have HF6:=qq (HF5.out.below hb6);have HP6:=qq (HP5.out.below hb6)
         have HB6:=qq (below_then HB5.out hb6);have HD6:=qq (below_then HD5.out hb6);have hz6:=hb6.size;have hX6:=hHeld.1.below hb6;clear hHeld hb6;refine ret_S ⟨hX6,(HP6.out.cell t1).trans HPB.out⟩ (fun hHeld=> ?_);simp only[puts];refine takeM (d:=some 28) 8 rfl rfl hHeld (fun w' _=>by go_simp;(try rfl)) ?_;simp only[puts]
         refine takeM (d:=some 37) 9 rfl rfl hHeld (fun w' _=>by go_simp;(try rfl)) ?_;simp only[puts];refine takeM (d:=some 38) 10 rfl rfl hHeld (fun w' _=>by go_simp;(try rfl)) ?_;simp only[puts];refine takeM (d:=some 39) 11 rfl rfl hHeld (fun w' _=>by go_simp;(try rfl)) ?_;simp only[puts];refine one_M 12 (by kernel_rfl) ?_;have hfp:fb<wr.heap.size:=by omega
         obtain⟨l6,q6,f6⟩:=HF6.out;have hq6:(w6.cell? ⟨fb,t1,none⟩).isSome=true:=by rw[q6];simp[factC];omega
         obtain⟨old,hold⟩:=Option.isSome_iff_exists.1 hq6;have hf6:=f6 t1;clear q6 f6 hq6;refine set_M 12 (w6.setCell ⟨fb,t1,none⟩ (.int .i64 (n:Int))) rfl rfl (by go_simp) ⟨hHeld.1.other (by dsimp only;omega) _,(((HP6.out.other (p:=⟨fb,t1,none⟩) (by have:=HFB.out;dsimp only;omega) _).cell t1).trans HPB.out)⟩ ?_;rintro hHeld
         refine takeM (d:=some 11) 13 rfl rfl hHeld (fun w' _=>by go_simp;(try rfl)) ?_;simp only[puts];refine doneM (by kernel_rfl) ?_ _;clear hHeld hX6 hold;have XB:=bel_set HB6.out (p:=⟨fb,t1,none⟩) (by dsimp only;omega) ((.int .i64 (n:Int)));have HXB:=qq XB;have HXT:=qq (hp_st HT6.out (p:=⟨fb,t1,none⟩) (by dsimp only;omega) ((.int .i64 (n:Int))))
         have HXD:=qq (bel_set HD6.out (p:=⟨fb,t1,none⟩) (by have:=HFB.out;dsimp only;omega) ((.int .i64 (n:Int))));have HXP:=qq (HP6.out.other (p:=⟨fb,t1,none⟩) (by have:=HFB.out;dsimp only;omega) ((.int .i64 (n:Int))));clear XB
         have HXF:Hid (Blk (w6.setCell ⟨fb,t1,none⟩ (.int .i64 (n:Int))) fb (factC (setTag f t n))):=qq (by have h:=HF6.out.set' t1 (by simp[factC];omega) (.int .i64 (n:Int));rw[←setTag_put f t n (by omega) (by omega),←HTT.out,Array.setIfInBounds,dif_pos (show t1<(factC f).size by simp[factC];omega)];exact h);go_wp2_with fail;go_roundw
         case rel=>exact⟨i+1,setTag f t n,b,by omega,by go_num,by first | rfl | exact True.intro,qq (by rw[HR.out,HDR.out,HE.out]),qq (by rw[setTag_ex];exact HX.out),HXT,HXF,HXP,HXB,HXD⟩
         case measure=>simp[intOf];omega
  · obtain rfl:i=N:=by omega
    have HEN2:Hid (rdAll (fact00,false) xs=some (f,b)):=qq (by rw[HR.out,List.drop_eq_nil_of_le (by have:=HNN.out;omega)];rfl);clear HR hlt hi;have c4:=HEN.out _ HB.out;have HC4:Hid (∀W,Below w.heap.size w W→W.cell? ⟨3,0,none⟩=some (errV (ea 4))):=qq (fun W hW=>(HEN.out W hW).e.e4);have HFR:=qq (fun W (hW:Below w.heap.size w W)=>factRight_of f HX.out ea W (HEN.out W hW));have hwr:=HB.out.size
    clear c4;obtain⟨k,an,aq,rg,nd,pt,pr,oc,dp,pa,st,hw,de,ex⟩:=f;obtain⟨okb,hok⟩:∃o,o=fok ⟨k,an,aq,rg,nd,pt,pr,oc,dp,pa,st,hw,de,ex⟩:=⟨_,rfl⟩
    rw[←hok] at HFR;have HOK:=qq hok;simp only[factV,factC] at HFR;clear hok;obtain⟨lf,qf,ff⟩:=HF.out;simp only[factC] at qf;by_cases hk:k=1
    · subst hk
      cases b with
      | true=>
       have HDK:Hid (true=decide ((1:Int)=1)):=qq rfl;go_wp2_with fail;refine(HFR.out _ HB.out).mono ?_;rintro e w3 ⟨rfl,hb3⟩;have HF3:=qq (HF.out.below hb3);have HT3:=qq (hp_be HT.out hb3);have HB3:=qq (below_then HB.out hb3);have hwr3:=HB3.out.size;clear hb3 qf ff lf;obtain⟨lf,qf,ff⟩:=HF3.out;simp only[factC] at qf
       cases okb with
       | true=>
        have HRN:Hid (rv=rdRes (some ⟨1,an,aq,rg,nd,pt,pr,oc,dp,pa,st,hw,de,ex⟩) (ea 4)):=qq (by
          rw[HRV.out,HEN2.out];unfold rdEnd;simp only;rw[if_neg (by rw[←HOK.out];intro h;rcases h with h | h;exact h HDK.out;cases h)])
        go_wp2_with (refine wpList_store_row rfl 39 (.tmp 2) (.tmp 79) rfl (w.heap.size) #[.int .i64 1,.int .i64 an,.int .i64 aq,.int .i64 rg,.int .i64 nd,.int .i64 pt,.int .i64 pr,.int .i64 oc,.int .i64 dp,.int .i64 pa,.int .i64 st,.int .i64 hw,.int .i64 de,.float .f64 ex] rfl rfl 39 #[.int .i64 0,.int .i64 0,.int .i64 0,.int .i64 0,.int .i64 0,.int .i64 0,.int .i64 0,.int .i64 0,.int .i64 0,.int .i64 0,.int .i64 0,.int .i64 0,.int .i64 0,.float .f64 0] HT3.out (by kernel_rfl) rfl (by simp[Value.oneCell']) ?_)
        obtain⟨HFr,hgr⟩:=row_end (cells:= #[.int .i64 1,.int .i64 an,.int .i64 aq,.int .i64 rg,.int .i64 nd,.int .i64 pt,.int .i64 pr,.int .i64 oc,.int .i64 dp,.int .i64 pa,.int .i64 st,.int .i64 hw,.int .i64 de,.float .f64 ex]) HT3.out;obtain⟨l1,q1,f1⟩:=HFr
        refine bodyPost_ret (v:=.tuple #[.agg #[.int .i64 1,an,aq,rg,nd,pt,pr,oc,dp,pa,st,hw,de,.float .f64 ex],.nilIface]) (by simp[results,Tryz.results103,go_sem,q1,f1]) rfl ?_;exact⟨by rw[HRN.out];rfl,bel_gr HB3.out hgr (Nat.le_refl _)⟩
       | false=>
        have HRN:Hid (rv=rdRes none (ea 4)):=qq (by
          rw[HRV.out,HEN2.out];unfold rdEnd;simp only;rw[if_pos (.inr HOK.out.symm)])
        go_wp2_with fail;have XB:=bel_drew HB3.out;have XC4:=HC4.out _ XB;have XT2:=hp_dr HT3.out
        refine reg_start2 (fun w'=>w'.cell? ⟨3,0,none⟩=some (errV (ea 4))∧Below w.heap.size w w') (fun w'=>w'.heap[w.heap.size]? =some (.cells #[.int .i64 0,.int .i64 0,.int .i64 0,.int .i64 0,.int .i64 0,.int .i64 0,.int .i64 0,.int .i64 0,.int .i64 0,.int .i64 0,.int .i64 0,.int .i64 0,.int .i64 0,.float .f64 0] 39 (0,0))) (by kernel_rfl) ⟨XC4,XB⟩ XT2 ?_;rintro w5 hHeld hT5
        refine takeM (v:=.agg #[.int .i64 0,.int .i64 0,.int .i64 0,.int .i64 0,.int .i64 0,.int .i64 0,.int .i64 0,.int .i64 0,.int .i64 0,.int .i64 0,.int .i64 0,.int .i64 0,.int .i64 0,.float .f64 0]) (d:=some 77) 0 rfl rfl hHeld (fun w' _=>by go_simp;(try rfl)) ?_;simp only[puts];refine takeM (d:=some 78) 1 rfl rfl hHeld (fun w' hS'=>by have qA:=hS'.1;clear hS';go_simp;(try rfl)) ?_
        simp only[puts];refine one_M 2 (by kernel_rfl) ?_
        refine row_M 2 39 (.tmp 2) (.tmp 77) rfl rfl rfl (w.heap.size) #[.int .i64 0,.int .i64 0,.int .i64 0,.int .i64 0,.int .i64 0,.int .i64 0,.int .i64 0,.int .i64 0,.int .i64 0,.int .i64 0,.int .i64 0,.int .i64 0,.int .i64 0,.float .f64 0] #[.int .i64 0,.int .i64 0,.int .i64 0,.int .i64 0,.int .i64 0,.int .i64 0,.int .i64 0,.int .i64 0,.int .i64 0,.int .i64 0,.int .i64 0,.int .i64 0,.int .i64 0,.float .f64 0] 39 hT5 rfl rfl (by kernel_rfl) rfl (by simp[Value.oneCell']) ?_
        rintro w6 hK6 hg6;have hg3:(3:Nat)≠w.heap.size:=fun e=>by omega
        refine⟨⟨?_,bel_gr hHeld.2 hg6 (Nat.le_refl _)⟩,fun hHeld=> ?_⟩
        · have h3:=hg6.block 3 (by have:=hHeld.2.size;omega) (fun e=>hg3 (by injection e));have h4:=hHeld.1;rw[←h4];simp[World.cell?,h3]
        refine takeM (d:=some 3) 3 rfl rfl hHeld (fun w' _=>by go_simp;(try rfl)) ?_;simp only[puts];refine doneM (by kernel_rfl) ?_ _;have hB6:=hHeld.2;obtain⟨l6,q6,f6⟩:=hK6;clear hHeld hT5 hg6;go_wp2_with fail
        refine bodyPost_ret (v:=.tuple #[.agg #[.int .i64 0,.int .i64 0,.int .i64 0,.int .i64 0,.int .i64 0,.int .i64 0,.int .i64 0,.int .i64 0,.int .i64 0,.int .i64 0,.int .i64 0,.int .i64 0,.int .i64 0,.float .f64 0],errV (ea 4)]) (by simp[results,Tryz.results103,go_sem,q6,f6]) rfl ?_;exact⟨by rw[HRN.out];rfl,hB6⟩
      | false=>
       have HDK:Hid (false≠decide ((1:Int)=1)):=qq (by decide);have HRN:Hid (rv=rdRes none (ea 4)):=qq (by
         rw[HRV.out,HEN2.out];unfold rdEnd;simp only;rw[if_pos (.inl HDK.out)])
       go_wp2_with fail;have XB:=bel_drew HB.out;have XC4:=HC4.out _ XB;have XT2:=hp_dr HT.out
       refine reg_start2 (fun w'=>w'.cell? ⟨3,0,none⟩=some (errV (ea 4))∧Below w.heap.size w w') (fun w'=>w'.heap[w.heap.size]? =some (.cells #[.int .i64 0,.int .i64 0,.int .i64 0,.int .i64 0,.int .i64 0,.int .i64 0,.int .i64 0,.int .i64 0,.int .i64 0,.int .i64 0,.int .i64 0,.int .i64 0,.int .i64 0,.float .f64 0] 39 (0,0))) (by kernel_rfl) ⟨XC4,XB⟩ XT2 ?_;rintro w5 hHeld hT5
       refine takeM (v:=.agg #[.int .i64 0,.int .i64 0,.int .i64 0,.int .i64 0,.int .i64 0,.int .i64 0,.int .i64 0,.int .i64 0,.int .i64 0,.int .i64 0,.int .i64 0,.int .i64 0,.int .i64 0,.float .f64 0]) (d:=some 77) 0 rfl rfl hHeld (fun w' _=>by go_simp;(try rfl)) ?_;simp only[puts];refine takeM (d:=some 78) 1 rfl rfl hHeld (fun w' hS'=>by have qA:=hS'.1;clear hS';go_simp;(try rfl)) ?_
       simp only[puts];refine one_M 2 (by kernel_rfl) ?_
       refine row_M 2 39 (.tmp 2) (.tmp 77) rfl rfl rfl (w.heap.size) #[.int .i64 0,.int .i64 0,.int .i64 0,.int .i64 0,.int .i64 0,.int .i64 0,.int .i64 0,.int .i64 0,.int .i64 0,.int .i64 0,.int .i64 0,.int .i64 0,.int .i64 0,.float .f64 0] #[.int .i64 0,.int .i64 0,.int .i64 0,.int .i64 0,.int .i64 0,.int .i64 0,.int .i64 0,.int .i64 0,.int .i64 0,.int .i64 0,.int .i64 0,.int .i64 0,.int .i64 0,.float .f64 0] 39 hT5 rfl rfl (by kernel_rfl) rfl (by simp[Value.oneCell']) ?_
       rintro w6 hK6 hg6;have hg3:(3:Nat)≠w.heap.size:=fun e=>by omega
       refine⟨⟨?_,bel_gr hHeld.2 hg6 (Nat.le_refl _)⟩,fun hHeld=> ?_⟩
       · have h3:=hg6.block 3 (by have:=hHeld.2.size;omega) (fun e=>hg3 (by injection e));have h4:=hHeld.1;rw[←h4];simp[World.cell?,h3]
       refine takeM (d:=some 3) 3 rfl rfl hHeld (fun w' _=>by go_simp;(try rfl)) ?_;simp only[puts];refine doneM (by kernel_rfl) ?_ _;have hB6:=hHeld.2;obtain⟨l6,q6,f6⟩:=hK6;clear hHeld hT5 hg6;go_wp2_with fail
       refine bodyPost_ret (v:=.tuple #[.agg #[.int .i64 0,.int .i64 0,.int .i64 0,.int .i64 0,.int .i64 0,.int .i64 0,.int .i64 0,.int .i64 0,.int .i64 0,.int .i64 0,.int .i64 0,.int .i64 0,.int .i64 0,.float .f64 0],errV (ea 4)]) (by simp[results,Tryz.results103,go_sem,q6,f6]) rfl ?_;exact⟨by rw[HRN.out];rfl,hB6⟩
    · have hk1:(k==1)=false:=by simpa using hk
      cases b with
      | true=>
       have HDK:Hid (true≠decide (k=1)):=qq (by simp[hk]);clear hk;have HRN:Hid (rv=rdRes none (ea 4)):=qq (by
         rw[HRV.out,HEN2.out];unfold rdEnd;simp only;rw[if_pos (.inl HDK.out)])
       go_wp2_with fail;have XB:=bel_drew HB.out;have XC4:=HC4.out _ XB;have XT2:=hp_dr HT.out
       refine reg_start2 (fun w'=>w'.cell? ⟨3,0,none⟩=some (errV (ea 4))∧Below w.heap.size w w') (fun w'=>w'.heap[w.heap.size]? =some (.cells #[.int .i64 0,.int .i64 0,.int .i64 0,.int .i64 0,.int .i64 0,.int .i64 0,.int .i64 0,.int .i64 0,.int .i64 0,.int .i64 0,.int .i64 0,.int .i64 0,.int .i64 0,.float .f64 0] 39 (0,0))) (by kernel_rfl) ⟨XC4,XB⟩ XT2 ?_;rintro w5 hHeld hT5
       refine takeM (v:=.agg #[.int .i64 0,.int .i64 0,.int .i64 0,.int .i64 0,.int .i64 0,.int .i64 0,.int .i64 0,.int .i64 0,.int .i64 0,.int .i64 0,.int .i64 0,.int .i64 0,.int .i64 0,.float .f64 0]) (d:=some 77) 0 rfl rfl hHeld (fun w' _=>by go_simp;(try rfl)) ?_;simp only[puts];refine takeM (d:=some 78) 1 rfl rfl hHeld (fun w' hS'=>by have qA:=hS'.1;clear hS';go_simp;(try rfl)) ?_
       simp only[puts];refine one_M 2 (by kernel_rfl) ?_
       refine row_M 2 39 (.tmp 2) (.tmp 77) rfl rfl rfl (w.heap.size) #[.int .i64 0,.int .i64 0,.int .i64 0,.int .i64 0,.int .i64 0,.int .i64 0,.int .i64 0,.int .i64 0,.int .i64 0,.int .i64 0,.int .i64 0,.int .i64 0,.int .i64 0,.float .f64 0] #[.int .i64 0,.int .i64 0,.int .i64 0,.int .i64 0,.int .i64 0,.int .i64 0,.int .i64 0,.int .i64 0,.int .i64 0,.int .i64 0,.int .i64 0,.int .i64 0,.int .i64 0,.float .f64 0] 39 hT5 rfl rfl (by kernel_rfl) rfl (by simp[Value.oneCell']) ?_
       rintro w6 hK6 hg6;have hg3:(3:Nat)≠w.heap.size:=fun e=>by omega
       refine⟨⟨?_,bel_gr hHeld.2 hg6 (Nat.le_refl _)⟩,fun hHeld=> ?_⟩
       · have h3:=hg6.block 3 (by have:=hHeld.2.size;omega) (fun e=>hg3 (by injection e));have h4:=hHeld.1;rw[←h4];simp[World.cell?,h3]
       refine takeM (d:=some 3) 3 rfl rfl hHeld (fun w' _=>by go_simp;(try rfl)) ?_;simp only[puts];refine doneM (by kernel_rfl) ?_ _;have hB6:=hHeld.2;obtain⟨l6,q6,f6⟩:=hK6;clear hHeld hT5 hg6;go_wp2_with fail
       refine bodyPost_ret (v:=.tuple #[.agg #[.int .i64 0,.int .i64 0,.int .i64 0,.int .i64 0,.int .i64 0,.int .i64 0,.int .i64 0,.int .i64 0,.int .i64 0,.int .i64 0,.int .i64 0,.int .i64 0,.int .i64 0,.float .f64 0],errV (ea 4)]) (by simp[results,Tryz.results103,go_sem,q6,f6]) rfl ?_;exact⟨by rw[HRN.out];rfl,hB6⟩
      | false=>
       have HDK:Hid (false=decide (k=1)):=qq (by simp[hk]);clear hk;go_wp2_with fail;refine(HFR.out _ HB.out).mono ?_;rintro e w3 ⟨rfl,hb3⟩;have HF3:=qq (HF.out.below hb3);have HT3:=qq (hp_be HT.out hb3);have HB3:=qq (below_then HB.out hb3);have hwr3:=HB3.out.size;clear hb3 qf ff lf;obtain⟨lf,qf,ff⟩:=HF3.out;simp only[factC] at qf
       cases okb with
       | true=>
        have HRN:Hid (rv=rdRes (some ⟨k,an,aq,rg,nd,pt,pr,oc,dp,pa,st,hw,de,ex⟩) (ea 4)):=qq (by
          rw[HRV.out,HEN2.out];unfold rdEnd;simp only;rw[if_neg (by rw[←HOK.out];intro h;rcases h with h | h;exact h HDK.out;cases h)])
        go_wp2_with (refine wpList_store_row rfl 39 (.tmp 2) (.tmp 79) rfl (w.heap.size) #[.int .i64 k,.int .i64 an,.int .i64 aq,.int .i64 rg,.int .i64 nd,.int .i64 pt,.int .i64 pr,.int .i64 oc,.int .i64 dp,.int .i64 pa,.int .i64 st,.int .i64 hw,.int .i64 de,.float .f64 ex] rfl rfl 39 #[.int .i64 0,.int .i64 0,.int .i64 0,.int .i64 0,.int .i64 0,.int .i64 0,.int .i64 0,.int .i64 0,.int .i64 0,.int .i64 0,.int .i64 0,.int .i64 0,.int .i64 0,.float .f64 0] HT3.out (by kernel_rfl) rfl (by simp[Value.oneCell']) ?_)
        obtain⟨HFr,hgr⟩:=row_end (cells:= #[.int .i64 k,.int .i64 an,.int .i64 aq,.int .i64 rg,.int .i64 nd,.int .i64 pt,.int .i64 pr,.int .i64 oc,.int .i64 dp,.int .i64 pa,.int .i64 st,.int .i64 hw,.int .i64 de,.float .f64 ex]) HT3.out;obtain⟨l1,q1,f1⟩:=HFr
        refine bodyPost_ret (v:=.tuple #[.agg #[k,an,aq,rg,nd,pt,pr,oc,dp,pa,st,hw,de,.float .f64 ex],.nilIface]) (by simp[results,Tryz.results103,go_sem,q1,f1]) rfl ?_;exact⟨by rw[HRN.out];rfl,bel_gr HB3.out hgr (Nat.le_refl _)⟩
       | false=>
        have HRN:Hid (rv=rdRes none (ea 4)):=qq (by
          rw[HRV.out,HEN2.out];unfold rdEnd;simp only;rw[if_pos (.inr HOK.out.symm)])
        go_wp2_with fail;have XB:=bel_drew HB3.out;have XC4:=HC4.out _ XB;have XT2:=hp_dr HT3.out
        refine reg_start2 (fun w'=>w'.cell? ⟨3,0,none⟩=some (errV (ea 4))∧Below w.heap.size w w') (fun w'=>w'.heap[w.heap.size]? =some (.cells #[.int .i64 0,.int .i64 0,.int .i64 0,.int .i64 0,.int .i64 0,.int .i64 0,.int .i64 0,.int .i64 0,.int .i64 0,.int .i64 0,.int .i64 0,.int .i64 0,.int .i64 0,.float .f64 0] 39 (0,0))) (by kernel_rfl) ⟨XC4,XB⟩ XT2 ?_;rintro w5 hHeld hT5
        refine takeM (v:=.agg #[.int .i64 0,.int .i64 0,.int .i64 0,.int .i64 0,.int .i64 0,.int .i64 0,.int .i64 0,.int .i64 0,.int .i64 0,.int .i64 0,.int .i64 0,.int .i64 0,.int .i64 0,.float .f64 0]) (d:=some 77) 0 rfl rfl hHeld (fun w' _=>by go_simp;(try rfl)) ?_;simp only[puts];refine takeM (d:=some 78) 1 rfl rfl hHeld (fun w' hS'=>by have qA:=hS'.1;clear hS';go_simp;(try rfl)) ?_
        simp only[puts];refine one_M 2 (by kernel_rfl) ?_
        refine row_M 2 39 (.tmp 2) (.tmp 77) rfl rfl rfl (w.heap.size) #[.int .i64 0,.int .i64 0,.int .i64 0,.int .i64 0,.int .i64 0,.int .i64 0,.int .i64 0,.int .i64 0,.int .i64 0,.int .i64 0,.int .i64 0,.int .i64 0,.int .i64 0,.float .f64 0] #[.int .i64 0,.int .i64 0,.int .i64 0,.int .i64 0,.int .i64 0,.int .i64 0,.int .i64 0,.int .i64 0,.int .i64 0,.int .i64 0,.int .i64 0,.int .i64 0,.int .i64 0,.float .f64 0] 39 hT5 rfl rfl (by kernel_rfl) rfl (by simp[Value.oneCell']) ?_
        rintro w6 hK6 hg6;have hg3:(3:Nat)≠w.heap.size:=fun e=>by omega
        refine⟨⟨?_,bel_gr hHeld.2 hg6 (Nat.le_refl _)⟩,fun hHeld=> ?_⟩
        · have h3:=hg6.block 3 (by have:=hHeld.2.size;omega) (fun e=>hg3 (by injection e));have h4:=hHeld.1;rw[←h4];simp[World.cell?,h3]
        refine takeM (d:=some 3) 3 rfl rfl hHeld (fun w' _=>by go_simp;(try rfl)) ?_;simp only[puts];refine doneM (by kernel_rfl) ?_ _;have hB6:=hHeld.2;obtain⟨l6,q6,f6⟩:=hK6;clear hHeld hT5 hg6;go_wp2_with fail
        refine bodyPost_ret (v:=.tuple #[.agg #[.int .i64 0,.int .i64 0,.int .i64 0,.int .i64 0,.int .i64 0,.int .i64 0,.int .i64 0,.int .i64 0,.int .i64 0,.int .i64 0,.int .i64 0,.int .i64 0,.int .i64 0,.float .f64 0],errV (ea 4)]) (by simp[results,Tryz.results103,go_sem,q6,f6]) rfl ?_;exact⟨by rw[HRN.out];rfl,hB6⟩
theorem cell_lt {w:World} {b o:Nat} {v:Value} (h:w.cell? ⟨b,o,none⟩=some v):b<w.heap.size:=by
 by_cases hb:b<w.heap.size
 · exact hb
 · simp[World.cell?,Array.getElem?_eq_none (Nat.le_of_not_lt hb)] at h
theorem EnvS.lt3 {ea:Int→Addr} {w:World} (h:EnvS ea w):3<w.heap.size:=cell_lt h.e.e4
theorem rdStep_F64 {s s':SFact×Bool} {x:Fld} (h:rdStep s x=some s') (hx:F64 s.1.ex) (hb:∀c∈x.d,c<256):F64 s'.1.ex:=by
 unfold rdStep at h;split at h
 · cases hq:fltF x.d with
   | none=>rw[hq] at h;cases h
   | some u=>
    rw[hq] at h;injection h with h
    subst h;exact(fltF_F64 hq hb).1
 · split at h
   · cases h
   · cases hq:numF x.d with
     | none=>rw[hq] at h;cases h
     | some n=>
      rw[hq] at h;injection h with h
      subst h;show F64 (setTag s.1 x.t n).ex
      rw[setTag_ex];exact hx
theorem rdAll_F64:∀(xs:List Fld) (s s':SFact×Bool),rdAll s xs=some s'→F64 s.1.ex→(∀x∈xs,∀c∈x.d,c<256)→F64 s'.1.ex
 | [],s,s',h,hx,_=>by injection h with h;subst h;exact hx
 | x::t,s,s',h,hx,hb=>by
  rw[rdAll_cons] at h
  cases hq:rdStep s x with
  | none=>rw[hq] at h;cases h
  | some s2=>
   rw[hq] at h;exact rdAll_F64 t s2 s' h (rdStep_F64 hq hx (hb x (by simp))) (fun y hy=>hb y (by simp[hy]))
theorem rdFact_F64 {bs:List Nat} {f:SFact} (h:rdFact bs=some f) (hb:∀c∈bs,c<256):F64 f.ex:=by
 cases hx:splitE bs.length bs 0 0 with
 | error n=>rw[rdFact_bad hx] at h;cases h
 | ok xs=>
  rw[rdFact_ok hx] at h
  cases hq:rdAll (fact00,false) xs with
  | none=>rw[hq] at h;cases h
  | some s=>
   rw[hq] at h;obtain⟨g,b⟩:=s;have h1:=rdAll_F64 xs _ _ hq (by unfold F64;decide) (fun x hx'=>((splitE_all _ _ _ _ _ hx hb (by omega)).2 x hx').2.2.2);unfold rdEnd at h;simp only at h;split at h
   · cases h
   · injection h with h
     subst h;exact h1
theorem read_some (a:Option Addr) (bs:List Nat) (cap:Nat) (f:SFact) (ea:Int→Addr) (w:World) (hE:EnvS ea w) (hB:BytesIn w a cap bs) (hl:bs.length≤900) (h:rdFact bs=some f):Calls Tryz.prog 103 #[.slice a bs.length cap] w (Makes (.tuple #[factV f,.nilIface]) w):=by
 cases hx:splitE bs.length bs 0 0 with
 | error n=>rw[rdFact_bad hx] at h;cases h
 | ok xs=>
  have:=read_go a bs cap xs ea w hE hE.lt3 hB hl hx;rw[h] at this;exact this
theorem read_split (a:Option Addr) (bs:List Nat) (cap:Nat) (n:Int) (ea:Int→Addr) (w:World) (hE:EnvS ea w) (hB:BytesIn w a cap bs) (hl:bs.length≤900) (hx:splitE bs.length bs 0 0=.error n):Calls Tryz.prog 103 #[.slice a bs.length cap] w (Makes (.tuple #[factV fact00,errV (ea n)]) w):=by
 have HSP:=qq (fun W (hb:Below w.heap.size w W)=>split_bad a bs cap n ea W (hE.below hb).e (hB.below hb) hl hx)
 have HT2:Hid ((w.alloc (.cells #[.int .i64 0,.int .i64 0,.int .i64 0,.int .i64 0,.int .i64 0,.int .i64 0,.int .i64 0,.int .i64 0,.int .i64 0,.int .i64 0,.int .i64 0,.int .i64 0,.int .i64 0,.float .f64 0] 39)).heap[w.heap.size]? =some (.cells #[.int .i64 0,.int .i64 0,.int .i64 0,.int .i64 0,.int .i64 0,.int .i64 0,.int .i64 0,.int .i64 0,.int .i64 0,.int .i64 0,.int .i64 0,.int .i64 0,.int .i64 0,.float .f64 0] 39 (0,0))):=qq (heap_alloc_new _ _)
 clear hE hB hx;go_enter Tryz.func103,Tryz.ntmps103;go_wp2_with fail;refine(HSP.out _ (by go_grown)).mono ?_;rintro e w1 ⟨rfl,hb1⟩;have HT3:=qq (hp_be HT2.out hb1);have HB1:=qq (below_then (show Below w.heap.size w _ from by go_grown) hb1);clear hb1
 go_wp2_with (refine wpList_store_row rfl 39 (.tmp 2) (.tmp 19) rfl (w.heap.size) #[.int .i64 0,.int .i64 0,.int .i64 0,.int .i64 0,.int .i64 0,.int .i64 0,.int .i64 0,.int .i64 0,.int .i64 0,.int .i64 0,.int .i64 0,.int .i64 0,.int .i64 0,.float .f64 0] rfl rfl 39 #[.int .i64 0,.int .i64 0,.int .i64 0,.int .i64 0,.int .i64 0,.int .i64 0,.int .i64 0,.int .i64 0,.int .i64 0,.int .i64 0,.int .i64 0,.int .i64 0,.int .i64 0,.float .f64 0] HT3.out (by kernel_rfl) rfl (by simp[Value.oneCell']) ?_)
 obtain⟨HFr,hgr⟩:=row_end (cells:= #[.int .i64 0,.int .i64 0,.int .i64 0,.int .i64 0,.int .i64 0,.int .i64 0,.int .i64 0,.int .i64 0,.int .i64 0,.int .i64 0,.int .i64 0,.int .i64 0,.int .i64 0,.float .f64 0]) HT3.out;obtain⟨l1,q1,f1⟩:=HFr
 refine bodyPost_ret (v:=.tuple #[.agg #[.int .i64 0,.int .i64 0,.int .i64 0,.int .i64 0,.int .i64 0,.int .i64 0,.int .i64 0,.int .i64 0,.int .i64 0,.int .i64 0,.int .i64 0,.int .i64 0,.int .i64 0,.float .f64 0],errV (ea n)]) (by simp[results,Tryz.results103,go_sem,q1,f1]) rfl ?_;exact⟨rfl,bel_gr HB1.out hgr (Nat.le_refl _)⟩
theorem read_none (a:Option Addr) (bs:List Nat) (cap:Nat) (ea:Int→Addr) (w:World) (hE:EnvS ea w) (hB:BytesIn w a cap bs) (hl:bs.length≤900) (h:rdFact bs=none):∃n,1≤n∧n≤14∧Calls Tryz.prog 103 #[.slice a bs.length cap] w (Makes (.tuple #[factV fact00,errV (ea n)]) w):=by
 cases hx:splitE bs.length bs 0 0 with
 | error n=>exact⟨n,(splitE_num _ _ _ _ _ hx).1,(splitE_num _ _ _ _ _ hx).2,read_split a bs cap n ea w hE hB hl hx⟩
 | ok xs=>
  have:=read_go a bs cap xs ea w hE hE.lt3 hB hl hx;rw[h] at this;exact⟨4,by omega,by omega,this⟩
def RowsIn (w:World) (a:Option Addr) (rows:List (List Nat)):Prop:=∀(k:Nat) (r:List Nat),rows[k]? =some r→∃b off ra rc,a=some ⟨b,off,none⟩∧b<w.heap.size∧w.cell? ⟨b,off+k,none⟩=some (.slice ra r.length rc)∧BytesIn w ra rc r
theorem RowsIn.below {w w':World} {a:Option Addr} {rows:List (List Nat)} (h:RowsIn w a rows) (hb:Below w.heap.size w w'):RowsIn w' a rows:=fun k r hk=>by
 obtain⟨b,off,ra,rc,h1,h2,h3,h4⟩:=h k r hk;exact⟨b,off,ra,rc,h1,Nat.lt_of_lt_of_le h2 hb.size,(hb.cell (p:=⟨b,off+k,none⟩) h2).trans h3,h4.below hb⟩
def ReplayEnds (node:Int) (rows:List (List Nat)) (ea:Int→Addr) (w:World) (e:Ending) (w':World):Prop:=
 (∀S,sreplay ⟨node,0,[],[]⟩ rows=some S→∃L,e=.returned (.tuple #[.pointer (some ⟨L.sb,0,none⟩),.nilIface])∧StoreAt L S w'∧(∀k∈L.foot,w.heap.size≤k)∧Below w.heap.size w w')∧
 (sreplay ⟨node,0,[],[]⟩ rows=none→e=.returned (.tuple #[.pointer none,errV (ea 5)])∧Below w.heap.size w w')
def srNext (S:Sto) (t:List (List Nat)):Option SFact→Option Sto
 | none=>none
 | some f=>if(sapply S f).2=0 then sreplay (sapply S f).1 t else none
theorem sreplay_cons (S:Sto) (r:List Nat) (t:List (List Nat)):sreplay S (r::t)=srNext S t (rdFact r):=by
 conv=>lhs;unfold sreplay
 cases rdFact r<;>rfl
theorem store_start {w:World} {node:Int} (T:TypeId):StoreAt ⟨w.heap.size,.slice none 0 0,.slice none 0 0,[]⟩ ⟨node,0,[],[]⟩ (w.alloc (.cells #[node,.int .i64 0,.slice none 0 0,.slice none 0 0] T)):=
 ⟨Blk.fresh _ _ _ _ rfl,World.ownsRow_nil _ _ _ _,World.ownsRow_nil _ _ _ _,fun i y a h=>by simp at h,by simp[SLoc.foot,Value.ownBlock,blocks]⟩
theorem errOf_zero (ea:Int→Addr):errOf ea 0=.nilIface:=rfl
theorem errOf_some {ea:Int→Addr} {n:Int} (h:n≠0):errOf ea n=errV (ea n):=by unfold errOf;rw[if_neg h]
theorem replay_of (node : Int) (a : Option Addr) (rows : List (List Nat)) (cap : Nat) (ea : Int → Addr) (w : World) (hE : EnvS ea w) (hnd : 0 ≤ node ∧ node ≤ 3) (hR : RowsIn w a rows) (hl : ∀ r ∈ rows, r.length ≤ 900) (hn : rows.length ≤ 1000) :
    Calls Tryz.prog 28 #[.int .i64 node,.slice a rows.length cap] w (ReplayEnds node rows ea w):=by
 have HN:=qq (fun W=>snew_yes node W hnd);have HG0:Hid (StoGood ⟨node,0,[],[]⟩):=qq (StoGood.new hnd.1 hnd.2);have HEN:=qq (fun W (hb:Below w.heap.size w W)=>hE.below hb);have HRW:=qq hR;have HLL:=qq hl;obtain⟨N,hN⟩:∃n,n=rows.length:=⟨_,rfl⟩
 rw[←hN] at hn⊢;have HNN:=qq hN;clear hE hnd hR hl hN;go_enter Tryz.func28,Tryz.ntmps28;go_wp2_with fail;refine(HN.out _).mono ?_;rintro e w1 ⟨rfl,rfl⟩;have HB1:=qq (show Below w.heap.size w (w.alloc (.cells #[node,.int .i64 0,.slice none 0 0,.slice none 0 0] 154)) from by go_grown);have HS1:=qq (store_start (w:=w) (node:=node) 154);go_wp2_with fail
 go_loopw [22] (fun cc wr=>∃k:Nat,k≤N∧cc=.int .i64 (k:Int)∧Hid (∃S L,L.sb=w.heap.size∧sreplay ⟨node,0,[],[]⟩ rows=sreplay S (rows.drop k)∧StoGood S∧StoreAt L S wr∧(∀j∈L.foot,w.heap.size≤j)∧Below w.heap.size w wr)) (fun cc _=>N - (intOf cc).toNat)
 case atStart=>exact⟨0,by omega,by first | rfl | go_num,qq ⟨_,_,rfl,rfl,HG0.out,HS1.out,(fun j hj=>by simp[SLoc.foot,Value.ownBlock,blocks] at hj;omega),HB1.out⟩⟩
 case round=>
  obtain⟨k,hk,rfl,HI⟩:=hrel;obtain⟨S,L,hsb,hsr,hG,hS,hf,hb⟩:=HI.out;have HSB:=qq hsb;have HSR:=qq hsr;have HG:=qq hG;have HS:=qq hS;have HF:=qq hf;have HB:=qq hb;have hwr:=hb.size;clear HI hsb hsr hG hS hf hb;have hk0:(0:Int)≤(k:Int):=by omega
  by_cases hlt:k<N
  · obtain⟨r,hr⟩:∃r,rows[k]? =some r:=⟨_,List.getElem?_eq_getElem (by have:=HNN.out;omega)⟩
    have hk1:(k:Int)<(N:Int):=by omega
    obtain⟨b,off,ra,rc,rfl,hbl,hc,hB⟩:=HRW.out k r hr;have c0:=(HB.out.cell (p:=⟨b,off+k,none⟩) hbl).trans hc;have HDR:Hid (rows.drop k=r::rows.drop (k+1)):=qq (by obtain⟨hil,he⟩:=List.getElem?_eq_some_iff.1 hr;rw[List.drop_eq_getElem_cons hil,he]);have HBY:=qq (hB.below HB.out);have HRL:=qq (HLL.out r (List.mem_of_getElem? hr));have hbw:b<wr.heap.size:=by omega
    clear hr hc hB hlt
    cases hq:rdFact r with
    | none=>
     obtain⟨en,hn1,hn2,hrd⟩:=read_none ra r rc ea wr (HEN.out _ HB.out) HBY.out HRL.out hq;have HRD:=qq hrd;have HNO:Hid (sreplay ⟨node,0,[],[]⟩ rows=none):=qq (by rw[HSR.out,HDR.out,sreplay_cons,hq];rfl);have hxb:∀W,Below wr.heap.size wr W→W.cell? ⟨4,0,none⟩=some (errV (ea 5)):=fun W hW=>(HEN.out _ (below_then HB.out hW)).e.e5
     have HXB:=qq hxb;clear hq hrd hxb;go_wp2_with fail;refine HRD.out.mono ?_;rintro e w3 ⟨rfl,hb3⟩;have c4:=HXB.out _ hb3;have HB3:=qq (below_then HB.out hb3);have hz3:4<w3.heap.size:=cell_lt c4;clear hb3;simp only[factV,factC,fact00];go_wp2_with fail;go_region
     all_goals (try go_wp2_with fail)
     all_goals refine bodyPost_ret (v:=.tuple #[.pointer none,errV (ea 5)]) (by simp[results,Tryz.results28,go_sem]) rfl ?_
     all_goals exact⟨fun S h=>(by rw[HNO.out] at h;cases h),fun _=>⟨rfl,by have:=HB3.out;have:=HB3.out.size;go_grown⟩⟩
    | some f=>
     have hx:=rdFact_F64 hq HBY.out.byte;have HRD:=qq (read_some ra r rc f ea wr (HEN.out _ HB.out) HBY.out HRL.out hq);have HA:=qq (fun L W (hW:EnvG L ea W) (hs:StoreAt L S W)=>apply_of L S f ea W hx hW hs HG.out);have HGS:=qq (sapply_good (f:=f) HG.out)
     have HST:Hid (sreplay ⟨node,0,[],[]⟩ rows=if(sapply S f).2=0 then sreplay (sapply S f).1 (rows.drop (k+1)) else none):=qq (by rw[HSR.out,HDR.out,sreplay_cons,hq];rfl);obtain⟨T,hT⟩:∃T,T=(sapply S f).1:=⟨_,rfl⟩
     obtain⟨en,hen⟩:∃en,en=(sapply S f).2:=⟨_,rfl⟩
     rw[←hT,←hen] at HA HST;rw[←hT] at HGS;clear hx hq hT hen HSR;obtain⟨k',an,aq,rg,nd,pt,pr,oc,dp,pa,st,hw,de,ex⟩:=f;simp only[factV,factC,ApplyEnds] at HRD HA;go_wp2_with fail;refine HRD.out.mono ?_;rintro e w3 ⟨rfl,hb3⟩;have HB3:=qq (bel_alloc (below_then HB.out hb3) (.cells #[k',an,aq,rg,nd,pt,pr,oc,dp,pa,st,hw,de,.float .f64 ex] 39))
     have HS3:=qq ((HS.out.below hb3).below ((Below.refl _ _).alloc (Nat.le_refl _) (.cells #[k',an,aq,rg,nd,pt,pr,oc,dp,pa,st,hw,de,.float .f64 ex] 39)));have hz3:=hb3.size;clear hb3 HS HBY;rw[←HSB.out];go_wp2_with fail;refine(HA.out L _ (envG_of (HEN.out w (Below.refl _ _)) HB3.out HF.out) HS3.out).mono ?_;rintro e w4 ⟨rfl,hs⟩;obtain⟨L2,hL2,hS4,hgo⟩:=hs
     have HB4:=qq (HB3.out.trans (hgo.below HF.out HB3.out.size));have HF4:=qq (fun j (hj:j∈L2.foot)=>(hgo.new j hj).elim (HF.out j) (fun h=>Nat.le_trans HB3.out.size h));have HS4:=qq hS4;have HL2:=qq hL2;clear hS4 hL2 hgo;by_cases he:en=0
     · subst he;have HST2:Hid (sreplay ⟨node,0,[],[]⟩ rows=sreplay T (rows.drop (k+1))):=qq (by rw[HST.out,if_pos rfl]);rw[errOf_zero];go_wp2_with fail;rw[HSB.out];go_roundw
       case rel=>exact⟨k+1,by omega,by go_num,qq ⟨T,L2,by rw[HL2.out,HSB.out],HST2.out,HGS.out,HS4.out,HF4.out,HB4.out⟩⟩
       case measure=>simp[intOf];omega
     · have HNO:Hid (sreplay ⟨node,0,[],[]⟩ rows=none):=qq (by rw[HST.out,if_neg he]);rw[errOf_some he];have c4:w4.cell? ⟨4,0,none⟩=some (errV (ea 5)):=(HEN.out _ HB4.out).e.e5;have hz4:4<w4.heap.size:=cell_lt c4;clear he;go_wp2_with fail;go_region
       all_goals (try go_wp2_with fail)
       all_goals refine bodyPost_ret (v:=.tuple #[.pointer none,errV (ea 5)]) (by simp[results,Tryz.results28,go_sem]) rfl ?_
       all_goals exact⟨fun S h=>(by rw[HNO.out] at h;cases h),fun _=>⟨rfl,by have:=HB4.out;have:=HB4.out.size;go_grown⟩⟩
  · obtain rfl:k=N:=by omega
    have HEND:Hid (sreplay ⟨node,0,[],[]⟩ rows=some S):=qq (by rw[HSR.out,List.drop_eq_nil_of_le (by have:=HNN.out;omega)];rfl);clear HSR hlt;go_wp2_with fail;refine bodyPost_ret (v:=.tuple #[.pointer (some ⟨w.heap.size,0,none⟩),.nilIface]) (by simp[results,Tryz.results28,go_sem]) rfl ?_
    exact⟨fun T h=>(by rw[HEND.out] at h;injection h with h;subst h;exact⟨L,by rw[HSB.out],HS.out,HF.out,HB.out⟩),fun h=>(by rw[HEND.out] at h;cases h)⟩
theorem bval_len (d:List Nat) (hb:∀c∈d,c<256) (hl:d.length≤8):bval d<18446744073709551616:=by
 have h1:=bval_lt d hb;have h2:(256:Nat) ^ d.length≤256 ^ 8:=Nat.pow_le_pow_right (by decide) hl;have e:(256:Nat) ^ 8=18446744073709551616:=by decide
 omega
theorem numF_big {d:List Nat} (hb:∀c∈d,c<256) (hl:d.length≤8) (h0:d.head? ≠some 0):numF d=if bval d≤9223372036854775807 then some (bval d) else none:=by
 by_cases h:bval d≤9223372036854775807
 · rw[if_pos h];unfold numF;rw[if_neg h0,if_neg];rintro(h8 | ⟨h8,h9⟩)
   · omega
   · match d,h8,h9 with
     | c::t,h8,h9=>
      simp only[List.length_cons,List.headD_cons] at h8 h9;rw[bval_cons,show t.length=7 by omega] at h;have:128*256 ^ 7≤c*256 ^ 7:=Nat.mul_le_mul_right _ (by omega);have e:(256:Nat) ^ 7=72057594037927936:=by decide
      rw[e] at this h;omega
 · rw[if_neg h]
   cases hq:numF d with
   | none=>rfl
   | some n=>
    have:=numF_lt hq hb;omega
theorem numF_long {d:List Nat} (hl:8<d.length):numF d=none:=by
 unfold numF;split
 · rfl
 · rw[if_pos (.inl hl)]
theorem wrap64 {z:Int} (h0:0≤z) (h1:z≤18446744073709551615):IntKind.u64.wrap z=z:=by rw[IntKind.wrap_u64];omega
theorem rtonum_zero (a:Option Addr) (cap:Nat) (t:List Nat) (w:World) (hD:DataC w a (0::t)):Calls Tryz.prog 106 #[.slice a (t.length+1) cap] w (Gives (.tuple #[.int .i64 0,.int .i64 4]) w):=by
 obtain⟨g,rfl,hg,c0⟩:=hD 0 0 rfl;obtain⟨n,hn⟩:∃n,n=t.length+1:=⟨_,rfl⟩
 rw[←hn];have hp:(0:Int)<(n:Int):=by omega
 have hz:((0:Nat):Int)=0:=rfl;rw[hz] at c0;clear hD hn hz;go_enter Tryz.func106,Tryz.ntmps106;go_wp2_with fail;go_ret2;exact⟨rfl,rfl⟩
theorem rtonum_long (a:Option Addr) (cap:Nat) (c:Nat) (t:List Nat) (w:World) (hD:DataC w a (c::t)) (hc:c≠0) (hl:8<t.length+1):Calls Tryz.prog 106 #[.slice a (t.length+1) cap] w (Gives (.tuple #[.int .i64 0,.int .i64 1]) w):=by
 obtain⟨g,rfl,hg,c0⟩:=hD 0 c rfl;obtain⟨n,hn⟩:∃n,n=t.length+1:=⟨_,rfl⟩
 rw[←hn] at hl⊢;have hp:(0:Int)<(n:Int):=by omega
 have hp8:(8:Int)<(n:Int):=by omega
 have hz:((c:Int)==0)=false:=by simpa using hc
 clear hD hn hl hc;go_enter Tryz.func106,Tryz.ntmps106;go_wp2_with fail;go_ret2;exact⟨rfl,rfl⟩
theorem rtonum_nil (a:Option Addr) (cap:Nat) (w:World):Calls Tryz.prog 106 #[.slice a 0 cap] w (Gives (.tuple #[.int .i64 0,.int .i64 0]) w):=by
 go_enter Tryz.func106,Tryz.ntmps106;go_wp2_with fail;go_loopw [21,4] (fun cc u wr=>cc=.int .i64 0∧u=.int .u64 0∧wr=w) (fun _ _ _=>0)
 case atStart=>exact⟨by first | rfl | go_num,by first | rfl | go_num,rfl⟩
 case round=>
  obtain⟨rfl,rfl,rfl⟩:=hrel;go_wp2_with fail;go_ret2;exact⟨rfl,rfl⟩
theorem rtonum_go (a:Option Addr) (cap:Nat) (d:List Nat) (v:Value) (w:World) (hne:d≠[]) (hb:∀c∈d,c<256) (hD:DataC w a d) (hl:d.length≤8) (h0:d.head? ≠some 0) (hv:v=if bval d≤9223372036854775807 then .tuple #[.int .i64 (bval d:Nat),.int .i64 0] else .tuple #[.int .i64 0,.int .i64 1]):Calls Tryz.prog 106 #[.slice a d.length cap] w (Gives v w):=by
 have hvl:=bval_len d hb hl;have HT:Hid (∀k,bval (d.take k)<18446744073709551616):=qq (fun k=>Nat.lt_of_le_of_lt (bval_take d k) hvl);have HD:=qq hD;have HB:=qq hb;have HV:=qq hv;have HVL:=qq hvl;have HC:∀c t,d=c::t→c≠0:=fun c t h e=>h0 (by rw[h,e];rfl)
 obtain⟨N,hN⟩:∃n,n=d.length:=⟨_,rfl⟩
 have HN:=qq hN;rw[←hN] at hl⊢;have h8:¬(8:Int)<(N:Int):=by omega
 have hcase:∃g c,a=some ⟨g,0,none⟩∧w.cell? ⟨g,0,none⟩=some (.int .u8 (c:Nat))∧0<N∧((c:Int)==0)=false:=by
  match d,hN,hD,HC,hne with
  | c::t,hN,hD,HC,_=>
   obtain⟨g,h1,h2,h3⟩:=hD 0 c rfl;exact⟨g,c,h1,h3,by simp at hN;omega,by simpa using HC c t rfl⟩
 clear hb hD hv hvl HC h0 hN hne;obtain⟨g0,c0,ha,hc0,hp,hz0⟩:=hcase;subst ha;have hp1:(0:Int)<(N:Int):=by omega
 go_enter Tryz.func106,Tryz.ntmps106;go_wp2_with fail;go_loopw [21,4] (fun cc u wr=>∃k:Nat,k≤d.length∧cc=.int .i64 (k:Int)∧u=.int .u64 (bval (d.take k):Nat)∧wr=w) (fun cc _ _=>d.length - (intOf cc).toNat)
 case atStart=>exact⟨0,by omega,by first | rfl | go_num,by first | rfl | simp[bval],rfl⟩
 case round=>
  obtain⟨k,hk,rfl,rfl,rfl⟩:=hrel;by_cases hlt:k<d.length
  · have hkN:(k:Int)<(N:Int):=by have:=HN.out;omega
    obtain⟨x,hx⟩:∃x,d[k]? =some x:=⟨_,List.getElem?_eq_getElem hlt⟩
    obtain⟨g,hg1,hgl,hcx⟩:=HD.out k x hx
    cases hg1
    have hx256:=HB.out x (List.mem_of_getElem? hx);have hnext:bval (d.take (k+1))=bval (d.take k)*256+x:=by
     obtain⟨hkl,he⟩:=List.getElem?_eq_some_iff.1 hx;rw[List.take_succ_eq_append_getElem hkl,he,bval_snoc]
    have hb1:=HT.out (k+1);rw[hnext] at hb1;have HNX:=qq hnext;have hkd:k+1≤d.length:=hlt;obtain⟨y,hy⟩:∃y,y=bval (d.take k):=⟨_,rfl⟩
    rw[←hy] at hb1⊢;have HY:=qq hy;have hw1:IntKind.u64.wrap (256*(y:Int))=256*(y:Int):=wrap64 (by omega) (by omega);have hw2:IntKind.u64.wrap (256*(y:Int)+(x:Int))=256*(y:Int)+(x:Int):=wrap64 (by omega) (by omega);have hx0:(0:Int)≤(x:Int):=by omega
    have hx1:(x:Int)≤255:=by omega
    have hk0:(0:Int)≤(k:Int):=by omega
    clear hx hnext hy;go_wp2_with fail;go_roundw
    case rel=>exact⟨k+1,hkd,by go_num,by rw[HNX.out,←HY.out];congr 1;omega,by first | rfl | exact True.intro⟩
    case measure=>simp[intOf];omega
  · have hkm:bval (d.take k)=bval d:=by rw[List.take_of_length_le (by omega)]
    rw[hkm];have hkN:k=N:=by have:=HN.out;omega
    subst hkN;obtain⟨y,hy⟩:∃y,y=bval d:=⟨_,rfl⟩
    rw[←hy] at HV⊢;clear hkm hlt hk hy;by_cases hbig:y≤9223372036854775807
    · have hv:=HV.out;rw[if_pos hbig] at hv;have HVV:=qq hv;have hi:IntKind.i64.wrap (y:Int)=(y:Int):=IntWalk.i64_in _ (by omega);have hnb:¬(9223372036854775807:Int)<(y:Int):=by omega
      clear hv hbig;go_wp2_with fail;go_ret2;exact⟨by rw[HVV.out];rfl,rfl⟩
    · have hv:=HV.out;rw[if_neg hbig] at hv;have HVV:=qq hv;have hnb:(9223372036854775807:Int)<(y:Int):=by omega
      clear hv hbig;go_wp2_with fail;go_ret2;exact⟨by rw[HVV.out];rfl,rfl⟩
theorem rtoflt_len (a:Option Addr) (cap n:Nat) (w:World) (hl:n≠8):Calls Tryz.prog 105 #[.slice a n cap] w (Gives (.tuple #[flV 0,.int .i64 4]) w):=by
 have hq:((n:Int) !=8)=true:=by simpa using(show ¬(n:Int)=8 by omega)
 clear hl;go_enter Tryz.func105,Tryz.ntmps105;go_wp2_with fail;go_ret2;exact⟨rfl,rfl⟩
theorem rtoflt_go (a:Option Addr) (cap:Nat) (d:List Nat) (v:Value) (w:World) (hl:d.length=8) (hb:∀c∈d,c<256) (hD:DataC w a d) (hv:v=if fplain (bval d)=bval d then .tuple #[flV (bval d),.int .i64 0] else .tuple #[flV 0,.int .i64 4]):Calls Tryz.prog 105 #[.slice a 8 cap] w (Gives v w):=by
 have hvl:=bval_len d hb (by omega);have HT:Hid (∀k,bval (d.take k)<18446744073709551616):=qq (fun k=>Nat.lt_of_le_of_lt (bval_take d k) hvl);have HD:=qq hD;have HB:=qq hb;have HV:=qq hv;have HVL:=qq hvl;have HN:=qq hl;have hf:=frombits_run;have HRB:=qq (fun W=>rbits_of (bval d) hvl W);clear hb hD hv hvl hl;go_enter Tryz.func105,Tryz.ntmps105;go_wp2_with fail
 go_loopw [13,4] (fun cc u wr=>∃k:Nat,k≤8∧cc=.int .i64 (k:Int)∧u=.int .u64 (bval (d.take k):Nat)∧wr=w) (fun cc _ _=>8 - (intOf cc).toNat)
 case atStart=>exact⟨0,by omega,by first | rfl | go_num,by first | rfl | simp[bval],rfl⟩
 case round=>
  obtain⟨k,hk,rfl,rfl,rfl⟩:=hrel;by_cases hlt:k<8
  · have hkN:(k:Int)<8:=by omega
    obtain⟨x,hx⟩:∃x,d[k]? =some x:=⟨_,List.getElem?_eq_getElem (by rw[HN.out];exact hlt)⟩
    obtain⟨g,rfl,hgl,hcx⟩:=HD.out k x hx;have hx256:=HB.out x (List.mem_of_getElem? hx);have hnext:bval (d.take (k+1))=bval (d.take k)*256+x:=by
     obtain⟨hkl,he⟩:=List.getElem?_eq_some_iff.1 hx;rw[List.take_succ_eq_append_getElem hkl,he,bval_snoc]
    have hb1:=HT.out (k+1);rw[hnext] at hb1;have HNX:=qq hnext;obtain⟨y,hy⟩:∃y,y=bval (d.take k):=⟨_,rfl⟩
    rw[←hy] at hb1⊢;have HY:=qq hy;have hw1:IntKind.u64.wrap (256*(y:Int))=256*(y:Int):=wrap64 (by omega) (by omega);have hw2:IntKind.u64.wrap (256*(y:Int)+(x:Int))=256*(y:Int)+(x:Int):=wrap64 (by omega) (by omega);have hx0:(0:Int)≤(x:Int):=by omega
    have hx1:(x:Int)≤255:=by omega
    have hk0:(0:Int)≤(k:Int):=by omega
    clear hx hnext hy;go_wp2_with fail;go_roundw
    case rel=>exact⟨k+1,by omega,by go_num,by rw[HNX.out,←HY.out];congr 1;omega,by first | rfl | exact True.intro⟩
    case measure=>simp[intOf];omega
  · have hkm:bval (d.take k)=bval d:=by rw[List.take_of_length_le (by have:=HN.out;omega)]
    rw[hkm];obtain rfl:k=8:=by omega
    obtain⟨y,hy⟩:∃y,y=bval d:=⟨_,rfl⟩
    rw[←hy] at HV HRB⊢;obtain⟨q,hq⟩:∃q,q=fplain y:=⟨_,rfl⟩
    rw[←hq] at HV HRB;clear hkm hlt hk hy hq;by_cases he:q=y
    · have hv:=HV.out;rw[if_pos he] at hv;have HVV:=qq hv;subst he;clear hv HV;go_wp2_with fail;refine(HRB.out _).mono ?_;rintro e w1 ⟨rfl,rfl⟩;go_wp2_with fail;go_ret2;exact⟨by rw[HVV.out];rfl,rfl⟩
    · have hv:=HV.out;rw[if_neg he] at hv;have HVV:=qq hv;have hne:((q:Int) !=(y:Int))=true:=by simpa using(show ¬(q:Int)=(y:Int) by omega)
      clear hv he HV;go_wp2_with fail;refine(HRB.out _).mono ?_;rintro e w1 ⟨rfl,rfl⟩;go_wp2_with fail;go_ret2;exact⟨by rw[HVV.out];rfl,rfl⟩
theorem rtoflt_some (a:Option Addr) (cap:Nat) (d:List Nat) (u:Nat) (w:World) (hb:∀c∈d,c<256) (hD:DataC w a d) (h:fltF d=some u):Calls Tryz.prog 105 #[.slice a d.length cap] w (Gives (.tuple #[flV u,.int .i64 0]) w):=by
 unfold fltF at h;split at h
 · cases h
 · rename_i hl
   have hl8:d.length=8:=Decidable.byContradiction hl;split at h
   · rename_i hp
     injection h with h
     subst h;rw[hl8];exact rtoflt_go a cap d _ w hl8 hb hD (by rw[if_pos hp])
   · cases h
theorem rtoflt_none (a:Option Addr) (cap:Nat) (d:List Nat) (w:World) (hb:∀c∈d,c<256) (hD:DataC w a d) (h:fltF d=none):Calls Tryz.prog 105 #[.slice a d.length cap] w (Gives (.tuple #[flV 0,.int .i64 4]) w):=by
 by_cases hl8:d.length=8
 · have hp:¬fplain (bval d)=bval d:=fun e=>by unfold fltF at h;rw[if_neg (by omega),if_pos e] at h;cases h
   rw[hl8];exact rtoflt_go a cap d _ w hl8 hb hD (by rw[if_neg hp])
 · exact rtoflt_len a cap d.length w hl8
theorem rtonum_some (a:Option Addr) (cap:Nat) (d:List Nat) (n:Nat) (w:World) (hb:∀c∈d,c<256) (hD:DataC w a d) (h:numF d=some n):Calls Tryz.prog 106 #[.slice a d.length cap] w (Gives (.tuple #[.int .i64 (n:Nat),.int .i64 0]) w):=by
 have h0:d.head? ≠some 0:=fun e=>by unfold numF at h;rw[if_pos e] at h;cases h
 have hl:d.length≤8:=by
  by_cases hl:8<d.length
  · rw[numF_long hl] at h;cases h
  · omega
 have hn:=numF_lt h hb;by_cases hne:d=[]
 · subst hne;have e0:n=0:=hn.1.symm;subst e0;exact rtonum_nil a cap w
 · refine rtonum_go a cap d _ w hne hb hD hl h0 ?_;rw[if_pos (by omega),hn.1]
theorem rtonum_none (a:Option Addr) (cap:Nat) (d:List Nat) (w:World) (hb:∀c∈d,c<256) (hD:DataC w a d) (h:numF d=none):∃k:Int,k≠0∧Calls Tryz.prog 106 #[.slice a d.length cap] w (Gives (.tuple #[.int .i64 0,.int .i64 k]) w):=by
 by_cases h0:d.head? =some 0
 · match d,h0,hD with
   | c::t,h0,hD=>
    injection h0 with h0
    subst h0;exact⟨4,by decide,rtonum_zero a cap t w hD⟩
 · by_cases hl:8<d.length
   · match d,h0,hD,hl with
     | c::t,h0,hD,hl=>exact⟨1,by decide,rtonum_long a cap c t w hD (fun e=>h0 (by rw[e];rfl)) hl⟩
   · refine⟨1,by decide,rtonum_go a cap d _ w (fun e=>by rw[e] at h;exact absurd h (by decide)) hb hD (by omega) h0 ?_⟩;have hbig:=numF_big hb (by omega) h0;rw[h] at hbig;split at hbig
     · cases hbig
     · rename_i hx
       rw[if_neg hx]
def RSplitEnds (bs:List Nat) (w:World) (e:Ending) (w':World):Prop:=
 (∀xs,splitE bs.length bs 0 0=.ok xs→∃a n c,e=.returned (.tuple #[.slice a n c,.int .i64 0])∧ReadFlds w' (.slice a n c) xs∧Below w.heap.size w w')∧∀n,splitE bs.length bs 0 0=.error n→e=.returned (.tuple #[.slice none 0 0,.int .i64 n])∧Below w.heap.size w w'
theorem fldE_three (t a b:Nat) (r:List Nat) (last cnt:Nat):fldE (t::a::b::r) last cnt=if t≤last∨200<a*256+b∨16≤cnt then .error 4 else if r.length<a*256+b then .error 2 else .ok (⟨t,r.take (a*256+b)⟩,r.drop (a*256+b)):=rfl
theorem rsplit_nil (a:Option Addr) (cap:Nat) (w:World):Calls Tryz.prog 104 #[.slice a 0 cap] w (RSplitEnds [] w):=by
 go_enter Tryz.func104,Tryz.ntmps104;go_wp2_with fail;go_loopw [4,5,6] (fun u l o wr=>u=.slice (some ⟨w.heap.size,0,none⟩) 0 0∧l=.int .i64 0∧o=.int .i64 0∧wr=w.alloc (.cells #[] 184)) (fun _ _ _ _=>0)
 case atStart=>exact⟨rfl,rfl,rfl,rfl⟩
 case round=>
  obtain⟨rfl,rfl,rfl,rfl⟩:=hrel;go_wp2_with fail;go_ret2;refine⟨fun xs h=>⟨_,_,_,rfl,?_,by go_grown⟩,fun n h=>by cases h⟩;injection h with h
  subst h;exact⟨_,_,rfl,fun k x hk=>by simp at hk⟩
theorem rsplit_some (g off : Nat) (bs : List Nat) (cap : Nat) (w : World) (hc : bs.length ≤ cap) (hB : ∀ c ∈ bs, c < 256) (hg : g < w.heap.size) (hr : ByteC w g off bs) (hl : bs.length ≤ 900) :
    Calls Tryz.prog 104 #[.slice (some ⟨g,off,none⟩) bs.length cap] w (RSplitEnds bs w):=by
 have HBS:=qq hB;have HBC:=qq hr;obtain⟨i0,ei,ez,es,eb⟩:=info_parts infoFld;obtain⟨j0,fi,fz,fs,fb⟩:=info_parts infoByte;obtain⟨N,hN⟩:∃n,n=bs.length:=⟨_,rfl⟩
 have HNN:=qq hN;rw[←hN] at hl hc⊢;clear hB hr hN;go_enter Tryz.func104,Tryz.ntmps104;go_wp2_with fail
 go_loopw [4,5,6] (fun u l o wr=>∃(pre:List Fld) (vs:List Value) (last cnt at_:Nat),Hid (splitE bs.length bs 0 0=joinE pre (splitE (bs.drop at_).length (bs.drop at_) last cnt))∧Hid (FldsAt w.heap.size u pre vs wr)∧Hid (Below w.heap.size w wr)∧at_≤N∧pre.length=cnt∧cnt≤16∧last<256∧l=.int .i64 (last:Int)∧o=.int .i64 (at_:Int)) (fun _ _ o _=>N - (intOf o).toNat)
 case atStart=>exact⟨[],[],0,0,0,qq (by rw[List.drop_zero];cases splitE bs.length bs 0 0<;>rfl),qq ⟨rfl,own_emptyB w _ _ _ (Nat.le_refl _),(fun i x dv h=>by simp at h),(fun x h=>by cases h)⟩,qq (by go_grown),by omega,rfl,by omega,by omega,by first | rfl | go_num,by first | rfl | go_num⟩
 case round=>
  obtain⟨pre,vs,last,cnt,at_,HS,HFL,HBW,hat,hpc,hc16,hl256,rfl,rfl⟩:=hrel;obtain⟨ua,uc,hu⟩:=row_slice HFL.out.row;subst hu;rw[hpc] at HFL⊢;have HPC:=qq hpc;have hbz:=HBW.out.size;have HRC:Hid (ByteC wr g (off+at_) (bs.drop at_)):=qq ((HBC.out.below HBW.out hg).drop at_);have HRB:Hid (∀c∈bs.drop at_,c<256):=qq (fun c hc=>HBS.out c (List.mem_of_mem_drop hc))
  have HRL:Hid ((bs.drop at_).length=N - at_):=qq (by rw[List.length_drop,HNN.out]);have hgw:g<wr.heap.size:=by omega
  have ha0:(0:Int)≤(at_:Int):=by omega
  clear hpc;obtain⟨rest,hrest⟩:∃r,r=bs.drop at_:=⟨_,rfl⟩
  rw[←hrest] at HS HRC HRB HRL;have HRE:=qq hrest;clear hrest;by_cases hend:at_=N
  · have hlt:¬(at_:Int)<(N:Int):=by omega
    have h0:rest=[]:=List.length_eq_zero_iff.1 (by rw[HRL.out];omega);have HEND:Hid (splitE bs.length bs 0 0=.ok pre):=qq (by rw[HS.out,h0];simp[splitE,joinE]);clear h0 hend;go_wp2_with fail;go_ret2;refine⟨fun xs h=>⟨_,_,_,rfl,?_,HBW.out⟩,fun n h=>by rw[HEND.out] at h;cases h⟩;rw[HEND.out] at h;injection h with h
    subst h;have:=read_flds HFL.out;exact this
  have hlt:(at_:Int)<(N:Int):=by omega
  have hne:rest≠[]:=fun e=>by have:=HRL.out;rw[e] at this;simp at this;omega
  have HST:=qq (splitE_step (last:=last) (cnt:=cnt) hne);by_cases hsh:N - at_<3
  · have h3:(N:Int) - (at_:Int)<3:=by omega
    have HBAD:Hid (splitE bs.length bs 0 0=.error 2):=qq (by rw[HS.out,HST.out,fldE_short (by rw[HRL.out];exact hsh)];rfl);clear hsh hend hne;go_wp2_with fail;go_ret2;exact⟨fun xs h=>(by rw[HBAD.out] at h;cases h),fun n h=>(by rw[HBAD.out] at h;injection h with h;subst h;exact⟨rfl,HBW.out⟩)⟩
  have h3:¬(N:Int) - (at_:Int)<3:=by omega
  obtain⟨t,a,b,r,rfl⟩:∃t a b r,rest=t::a::b::r:=by
   match rest,HRL.out with
   | [],h=>simp at h;omega
   | [_],h=>simp at h;omega
   | [_,_],h=>simp at h;omega
   | t::a::b::r,_=>exact⟨t,a,b,r,rfl⟩
  have c0:wr.cell? ⟨g,off+at_,none⟩=some (.int .u8 (t:Int)):=HRC.out 0 t rfl;have c1:wr.cell? ⟨g,off+(at_+1),none⟩=some (.int .u8 (a:Int)):=by have:=HRC.out 1 a rfl;rwa[Nat.add_assoc] at this
  have c2:wr.cell? ⟨g,off+(at_+2),none⟩=some (.int .u8 (b:Int)):=by have:=HRC.out 2 b rfl;rwa[Nat.add_assoc] at this
  have ht256:=HRB.out t (by simp);have ha256:=HRB.out a (by simp);have hb256:=HRB.out b (by simp);have hrl:r.length+3=N - at_:=by have:=HRL.out;simpa using this
  have HRL3:=qq hrl;have HF3:=qq (fldE_three t a b r last cnt);obtain⟨m1,hm1⟩:∃m,m=at_+1:=⟨_,rfl⟩
  obtain⟨m2,hm2⟩:∃m,m=at_+2:=⟨_,rfl⟩
  obtain⟨m3,hm3⟩:∃m,m=at_+3:=⟨_,rfl⟩
  obtain⟨sz,hsz⟩:∃n,n=a*256+b:=⟨_,rfl⟩
  rw[←hm1] at c1;rw[←hm2] at c2;rw[←hsz] at HF3;have hw1:IntKind.i64.wrap ((at_:Int)+1)=(m1:Int):=by have h:=IntWalk.i64_in ((at_:Int)+1) (by omega);rw[h];omega
  have hw2:IntKind.i64.wrap ((at_:Int)+2)=(m2:Int):=by have h:=IntWalk.i64_in ((at_:Int)+2) (by omega);rw[h];omega
  have hw3:IntKind.i64.wrap ((at_:Int)+3)=(m3:Int):=by have h:=IntWalk.i64_in ((at_:Int)+3) (by omega);rw[h];omega
  have hwa:IntKind.i64.wrap ((a:Int)*256)=(a:Int)*256:=IntWalk.i64_in _ (by omega);have hws:IntKind.i64.wrap ((a:Int)*256+(b:Int))=(sz:Int):=by have h:=IntWalk.i64_in ((a:Int)*256+(b:Int)) (by omega);rw[h];omega
  have hwt:IntKind.i64.wrap (t:Int)=(t:Int):=IntWalk.i64_in _ (by omega);have hwa1:IntKind.i64.wrap (a:Int)=(a:Int):=IntWalk.i64_in _ (by omega);have hwb:IntKind.i64.wrap (b:Int)=(b:Int):=IntWalk.i64_in _ (by omega);have hi1:(m1:Int)<(N:Int):=by omega
  have hi2:(m2:Int)<(N:Int):=by omega
  have hj1:(0:Int)≤(m1:Int):=by omega
  have hj2:(0:Int)≤(m2:Int):=by omega
  have hx0:(0:Int)≤(t:Int):=by omega
  have hx1:(t:Int)≤255:=by omega
  have hy0:(0:Int)≤(a:Int):=by omega
  have hy1:(a:Int)≤255:=by omega
  have hz0:(0:Int)≤(b:Int):=by omega
  have hz1:(b:Int)≤255:=by omega
  have hszl:sz≤65535:=by omega
  have hm3n:m3≤N:=by omega
  have HM3:=qq hm3;clear hsh hend hne hm1 hm2 hsz;go_wp2_with fail
  refine reg_start2 (fun w'=>w'.cell? ⟨g,off+at_,none⟩=some (.int .u8 (t:Int))∧w'.cell? ⟨g,off+m1,none⟩=some (.int .u8 (a:Int))∧w'.cell? ⟨g,off+m2,none⟩=some (.int .u8 (b:Int))) (fun w'=>FldsAt w.heap.size (.slice ua cnt uc) pre vs w'∧Below w.heap.size w w'∧ByteC w' g (off+at_) (t::a::b::r)) (by kernel_rfl) ⟨c0,c1,c2⟩ ⟨HFL.out.heap (fun k _ _=>rfl),bel_drew HBW.out,HRC.out.below (Below.refl _ _).drew hgw⟩ ?_
  rintro w5 hHeld ⟨hF5,hB5,hR5⟩;have HFL:=qq hF5;have HBW:=qq hB5;have HRC:=qq hR5;have hz5:=HBW.out.size;clear hF5 hB5 hR5 c0 c1 c2 hgw hbz;refine takeM (d:=some 19) 0 rfl rfl hHeld (fun w' _=>by go_simp;(try rfl)) ?_;simp only[puts];refine takeM (d:=some 20) 1 rfl rfl hHeld (fun w' _=>by go_simp;(try rfl)) ?_;simp only[puts]
  refine takeM (v:=.pointer (some ⟨g,off+at_,none⟩)) (d:=some 21) 2 rfl rfl hHeld (fun w' _=>by go_simp;(try rfl)) ?_;simp only[puts];refine takeM (d:=some 22) 3 rfl rfl hHeld (fun w' hS'=>by have qA:=hS'.1;clear hS';go_simp;(try rfl)) ?_;simp only[puts];refine takeM (v:=.int .i64 (t:Int)) (d:=some 23) 4 rfl rfl hHeld (fun w' _=>by go_simp;(try rfl)) ?_;simp only[puts]
  refine takeM (d:=some 24) 5 rfl rfl hHeld (fun w' _=>by go_simp;(try rfl)) ?_;simp only[puts];refine takeM (d:=some 25) 6 rfl rfl hHeld (fun w' _=>by go_simp;(try rfl)) ?_;simp only[puts];refine takeM (v:=.int .i64 (m1:Int)) (d:=some 26) 7 rfl rfl hHeld (fun w' _=>by go_simp;(try rfl)) ?_;simp only[puts]
  refine takeM (v:=.pointer (some ⟨g,off+m1,none⟩)) (d:=some 27) 8 rfl rfl hHeld (fun w' _=>by go_simp;(try rfl)) ?_;simp only[puts];refine takeM (d:=some 28) 9 rfl rfl hHeld (fun w' hS'=>by have qA:=hS'.2.1;clear hS';go_simp;(try rfl)) ?_;simp only[puts];refine takeM (v:=.int .i64 (a:Int)) (d:=some 29) 10 rfl rfl hHeld (fun w' _=>by go_simp;(try rfl)) ?_;simp only[puts]
  refine takeM (v:=.int .i64 ((a:Int)*256)) (d:=some 30) 11 rfl rfl hHeld (fun w' _=>by go_simp;(try rfl)) ?_;simp only[puts];refine takeM (d:=some 31) 12 rfl rfl hHeld (fun w' _=>by go_simp;(try rfl)) ?_;simp only[puts];refine takeM (d:=some 32) 13 rfl rfl hHeld (fun w' _=>by go_simp;(try rfl)) ?_;simp only[puts]
  refine takeM (v:=.int .i64 (m2:Int)) (d:=some 33) 14 rfl rfl hHeld (fun w' _=>by go_simp;(try rfl)) ?_;simp only[puts];refine takeM (v:=.pointer (some ⟨g,off+m2,none⟩)) (d:=some 34) 15 rfl rfl hHeld (fun w' _=>by go_simp;(try rfl)) ?_;simp only[puts];refine takeM (d:=some 35) 16 rfl rfl hHeld (fun w' hS'=>by have qA:=hS'.2.2;clear hS';go_simp;(try rfl)) ?_;simp only[puts]
  refine takeM (v:=.int .i64 (b:Int)) (d:=some 36) 17 rfl rfl hHeld (fun w' _=>by go_simp;(try rfl)) ?_;simp only[puts];refine takeM (v:=.int .i64 (sz:Int)) (d:=some 37) 18 rfl rfl hHeld (fun w' _=>by go_simp;(try rfl)) ?_;simp only[puts];refine takeM (d:=some 7) 19 rfl rfl hHeld (fun w' _=>by go_simp;(try rfl)) ?_;simp only[puts]
  refine takeM (d:=some 8) 20 rfl rfl hHeld (fun w' _=>by go_simp;(try rfl)) ?_;simp only[puts];refine doneM (by kernel_rfl) ?_ _;clear hHeld hw1 hw2 hwa hws hwt hwa1 hwb hi1 hi2 hj1 hj2 hx0 hx1 hy0 hy1 hz0 hz1 ha256 hb256;by_cases hbad:t≤last∨200<sz∨16≤cnt
  · have HBAD:Hid (splitE bs.length bs 0 0=.error 4):=qq (by rw[HS.out,HST.out,HF3.out,if_pos hbad];rfl);have hcut:t≤last∨(¬t≤last∧200<sz)∨(¬t≤last∧¬200<sz∧cnt=16):=by omega
    clear hbad;rcases hcut with h | ⟨h,h'⟩ | ⟨h,h',h''⟩
    · have e1:(t:Int)≤(last:Int):=by omega
      clear h;go_wp2_with fail;go_ret2;exact⟨fun xs h=>(by rw[HBAD.out] at h;cases h),fun n h=>(by rw[HBAD.out] at h;injection h with h;subst h;exact⟨rfl,HBW.out⟩)⟩
    · have e1:¬(t:Int)≤(last:Int):=by omega
      have e2:(200:Int)<(sz:Int):=by omega
      clear h h';go_wp2_with fail;go_ret2;exact⟨fun xs h=>(by rw[HBAD.out] at h;cases h),fun n h=>(by rw[HBAD.out] at h;injection h with h;subst h;exact⟨rfl,HBW.out⟩)⟩
    · have e1:¬(t:Int)≤(last:Int):=by omega
      have e2:¬(200:Int)<(sz:Int):=by omega
      have e3:((cnt:Int)==16)=true:=by simpa using(show(cnt:Int)=16 by omega)
      clear h h' h'';go_wp2_with fail;go_ret2;exact⟨fun xs h=>(by rw[HBAD.out] at h;cases h),fun n h=>(by rw[HBAD.out] at h;injection h with h;subst h;exact⟨rfl,HBW.out⟩)⟩
  have hcut:¬t≤last∧¬200<sz∧cnt<16:=by omega
  have e1:¬(t:Int)≤(last:Int):=by omega
  have e2:¬(200:Int)<(sz:Int):=by omega
  have e3:((cnt:Int)==16)=false:=by simpa using(show ¬(cnt:Int)=16 by omega)
  have hw4:IntKind.i64.wrap ((N:Int) - (at_:Int) - 3)=((r.length:Nat):Int):=by have h:=IntWalk.i64_in ((N:Int) - (at_:Int) - 3) (by omega);rw[h];omega
  by_cases hlong:r.length<sz
  · have HBAD:Hid (splitE bs.length bs 0 0=.error 2):=qq (by rw[HS.out,HST.out,HF3.out,if_neg hbad,if_pos hlong];rfl);have e4:(r.length:Int)<(sz:Int):=by omega
    clear hbad hlong hcut;go_wp2_with fail;go_ret2;exact⟨fun xs h=>(by rw[HBAD.out] at h;cases h),fun n h=>(by rw[HBAD.out] at h;injection h with h;subst h;exact⟨rfl,HBW.out⟩)⟩
  have e4:¬(r.length:Int)<(sz:Int):=by omega
  have HOK:Hid (splitE bs.length bs 0 0=joinE (pre ++ [⟨t,r.take sz⟩]) (splitE (r.drop sz).length (r.drop sz) t (cnt+1))):=qq (by rw[HS.out,HST.out,HF3.out,if_neg hbad,if_neg hlong];simp only[stepE];rw[joinE_join]);have hszr:sz≤r.length:=by omega
  have hc16':cnt<16:=hcut.2.2;have hsz200:sz≤200:=by omega
  clear hbad hlong hcut;have HDL:Hid ((r.take sz).length=sz):=qq (by rw[List.length_take];omega);have hbs:bs.drop (at_+(3+sz))=r.drop sz:=by rw[←List.drop_drop,←HRE.out,←List.drop_drop];rfl
  rw[←hbs] at HOK;have HUB:Hid (∀k,(Value.slice ua cnt uc).ownBlock=some k→w.heap.size≤k∧k<w5.heap.size):=qq (fun k hk=>by have h:=HFL.out.row.lt k hk;exact h);have hgw5:g<w5.heap.size:=by omega
  clear hbs hw3 hm3n HM3;by_cases hcm:cap=at_+3
  · have hsz0:sz=0:=by omega
    subst hcm;go_wp2_with (at_builtin;refine wpList_append_own_at _ rfl _ _ 65 rfl w5.heap.size 5 j0 (.int .u8 0) 1 1 Tryz.underlying65 fi fz fs fb rfl (by decide) _ 0 _ rfl (own_emptyB w5 w5.heap.size 5 1 (Nat.le_refl _)) ⟨g,off,none⟩ (0) (at_+3 - (at_+3)) [] rfl ?f2 ?f1 (fun u hu=>by cases hu) ?f3 ?f4 ?f5 ?_)
    (try case f1=>intro j u hu;simp at hu)
    (try case f2=>rfl)
    (try case f3=>unfold maxLen;omega)
    (try case f4=>omega)
    (try case f5=>simp)
    intro v2 w6 hown hgrow _ _;have hx6:w6.ownsRow w5.heap.size 5 1 v2 (r.take sz).length (bytesL (r.take sz)):=by rw[HDL.out,show bytesL (r.take sz)=[] by(rw[hsz0];rfl),hsz0];simpa using hown
    have hb5:=(Below.refl w5.heap.size w5).alloc (Nat.le_refl _) (.cells #[] 5);have hb6:=hb5.grown hgrow hb5.size (fun j hj=>Nat.le_of_eq (by simpa[Value.ownBlock] using hj));have HD6:=qq hx6;have HFL6:=qq (HFL.out.heap (w':=w6) (fun k _ hkl=>hb6.block k hkl));have HBW6:=qq (below_then HBW.out hb6);have hz6:=hb6.size;obtain⟨da,dc,hdv⟩:=row_slice hx6;subst hdv
    obtain⟨nd,hnd⟩:∃n,n=(r.take sz).length:=⟨_,rfl⟩
    have HND:=qq hnd;rw[←hnd];clear hx6 hb5 hb6 hown hgrow hnd HFL HBW;have hal:=(Below.refl w6.heap.size w6).alloc (Nat.le_refl _) (.cells #[(t:Int),.slice da nd dc] 184);have HFA:=qq (HFL6.out.heap (fun k _ hkl=>hal.block k hkl));have HDA:=qq (row_be HD6.out hal);have HBA:=qq (below_then HBW6.out hal)
    have hza:w.heap.size≤(w6.alloc (.cells #[(t:Int),.slice da nd dc] 184)).heap.size:=by simp;omega
    have hrow:(w6.alloc (.cells #[(t:Int),.slice da nd dc] 184)).ownsRow w.heap.size 184 2 (.slice ua cnt uc) cnt (fldsL pre vs):=by have:=HFA.out.row;rw[HPC.out] at this;exact this
    clear hal
    go_wp2_with (at_builtin;refine wpList_append_own_at _ rfl _ _ 179 rfl w.heap.size 184 i0 (.agg #[.int .i64 0,.slice none 0 0]) 2 32 Tryz.underlying179 ei ez es eb rfl (by decide) _ _ _ rfl hrow ⟨w6.heap.size,0,none⟩ 1 1 (fldL ⟨t,r.take sz⟩ (.slice da nd dc)) (by rfl) rfl (lit_cells (Blk.fresh _ _ _ _ rfl)) (fun u hu=>by simp only[fldL,List.mem_cons,List.not_mem_nil,or_false] at hu;rcases hu with rfl | rfl<;>rfl) ?g3 ?g4 ?g5 ?_)
    case g3=>unfold maxLen;omega
    case g4=>omega
    case g5=>exact hza
    intro v3 w7 hown hgrow _ hat7;have hub:∀k,(Value.slice ua cnt uc).ownBlock=some k→w.heap.size≤k∧k<w5.heap.size:=fun k hk=>HUB.out k hk
    have hsn:=HFA.out.snoc (x:=⟨t,r.take sz⟩) (dv:=.slice da nd dc) (row_mono (B':=w5.heap.size) (by rw[HND.out] at *;exact HDA.out) (by omega)) (fun k hk e=>by have h1:=(HD6.out.lt k (by rw[←HND.out];exact hk)).1;have h2:=(hub k e).2;omega) (by rw[HPC.out];exact hown) hgrow (by rw[World.size_alloc];exact hat7);have HSN:=qq hsn
    have HB7:=qq (HBA.out.grown hgrow HBA.out.size (fun j hj=>(hub j hj).1));clear hown hgrow hat7 hub hsn hrow hza;go_wp2_with fail;go_roundw
    case rel=>exact⟨pre ++ [⟨t,r.take sz⟩],vs ++ [.slice da nd dc],t,cnt+1,at_+(3+sz),HOK,HSN,HB7,by omega,by rw[List.length_append,HPC.out];rfl,by omega,ht256,by first | rfl | go_num,by first | rfl | go_num⟩
    case measure=>simp[intOf];omega
  · skip;go_wp2_with (at_builtin;refine wpList_append_own_at _ rfl _ _ 65 rfl w5.heap.size 5 j0 (.int .u8 0) 1 1 Tryz.underlying65 fi fz fs fb rfl (by decide) _ 0 _ rfl (own_emptyB w5 w5.heap.size 5 1 (Nat.le_refl _)) ⟨g,off+(at_+3),none⟩ (at_+3+sz - (at_+3)) (cap - (at_+3)) (bytesL (r.take sz)) rfl ?d2 ?d1 (bytesL_one _) ?d3 ?d4 ?d5 ?_)
    case d1=>
     intro j u hu;unfold bytesL at hu;rw[List.getElem?_map] at hu;obtain⟨c,hc,rfl⟩:=Option.map_eq_some_iff.1 hu;have hh:=((HRC.out.drop 3).take sz) j c hc;rw[Nat.add_assoc off at_ 3] at hh;exact hh
    (try case d2=>unfold bytesL;rw[List.length_map,HDL.out];(try omega))
    (try case d3=>unfold maxLen;omega)
    (try case d4=>omega)
    (try case d5=>simp)
    intro v2 w6 hown hgrow _ _;have hx6:w6.ownsRow w5.heap.size 5 1 v2 (r.take sz).length (bytesL (r.take sz)):=by rw[HDL.out];simpa using hown
    have hb5:=(Below.refl w5.heap.size w5).alloc (Nat.le_refl _) (.cells #[] 5);have hb6:=hb5.grown hgrow hb5.size (fun j hj=>Nat.le_of_eq (by simpa[Value.ownBlock] using hj));have HD6:=qq hx6;have HFL6:=qq (HFL.out.heap (w':=w6) (fun k _ hkl=>hb6.block k hkl));have HBW6:=qq (below_then HBW.out hb6);have hz6:=hb6.size;obtain⟨da,dc,hdv⟩:=row_slice hx6;subst hdv
    obtain⟨nd,hnd⟩:∃n,n=(r.take sz).length:=⟨_,rfl⟩
    have HND:=qq hnd;rw[←hnd];clear hx6 hb5 hb6 hown hgrow hnd HFL HBW;have hal:=(Below.refl w6.heap.size w6).alloc (Nat.le_refl _) (.cells #[(t:Int),.slice da nd dc] 184);have HFA:=qq (HFL6.out.heap (fun k _ hkl=>hal.block k hkl));have HDA:=qq (row_be HD6.out hal);have HBA:=qq (below_then HBW6.out hal)
    have hza:w.heap.size≤(w6.alloc (.cells #[(t:Int),.slice da nd dc] 184)).heap.size:=by simp;omega
    have hrow:(w6.alloc (.cells #[(t:Int),.slice da nd dc] 184)).ownsRow w.heap.size 184 2 (.slice ua cnt uc) cnt (fldsL pre vs):=by have:=HFA.out.row;rw[HPC.out] at this;exact this
    clear hal
    go_wp2_with (at_builtin;refine wpList_append_own_at _ rfl _ _ 179 rfl w.heap.size 184 i0 (.agg #[.int .i64 0,.slice none 0 0]) 2 32 Tryz.underlying179 ei ez es eb rfl (by decide) _ _ _ rfl hrow ⟨w6.heap.size,0,none⟩ 1 1 (fldL ⟨t,r.take sz⟩ (.slice da nd dc)) (by rfl) rfl (lit_cells (Blk.fresh _ _ _ _ rfl)) (fun u hu=>by simp only[fldL,List.mem_cons,List.not_mem_nil,or_false] at hu;rcases hu with rfl | rfl<;>rfl) ?e3 ?e4 ?e5 ?_)
    case e3=>unfold maxLen;omega
    case e4=>omega
    case e5=>exact hza
    intro v3 w7 hown hgrow _ hat7;have hub:∀k,(Value.slice ua cnt uc).ownBlock=some k→w.heap.size≤k∧k<w5.heap.size:=fun k hk=>HUB.out k hk
    have hsn:=HFA.out.snoc (x:=⟨t,r.take sz⟩) (dv:=.slice da nd dc) (row_mono (B':=w5.heap.size) (by rw[HND.out] at *;exact HDA.out) (by omega)) (fun k hk e=>by have h1:=(HD6.out.lt k (by rw[←HND.out];exact hk)).1;have h2:=(hub k e).2;omega) (by rw[HPC.out];exact hown) hgrow (by rw[World.size_alloc];exact hat7);have HSN:=qq hsn
    have HB7:=qq (HBA.out.grown hgrow HBA.out.size (fun j hj=>(hub j hj).1));clear hown hgrow hat7 hub hsn hrow hza;go_wp2_with fail;go_roundw
    case rel=>exact⟨pre ++ [⟨t,r.take sz⟩],vs ++ [.slice da nd dc],t,cnt+1,at_+(3+sz),HOK,HSN,HB7,by omega,by rw[List.length_append,HPC.out];rfl,by omega,ht256,by first | rfl | go_num,by first | rfl | go_num⟩
    case measure=>simp[intOf];omega
theorem rsplit_of (a:Option Addr) (bs:List Nat) (cap:Nat) (w:World) (hB:BytesIn w a cap bs) (hl:bs.length≤900):Calls Tryz.prog 104 #[.slice a bs.length cap] w (RSplitEnds bs w):=by
 by_cases h:bs=[]
 · subst h;exact rsplit_nil a cap w
 · obtain⟨g,off,rfl,h2,h3⟩:=hB.cell h;exact rsplit_some g off bs cap w hB.cap hB.byte h2 h3 hl
open Go.RowKit Go.Shelf
def fzero (f:SFact) (ns:List Int):Bool:=(List.range 13).all fun i=>i==0 || ((fnums f).getD i 0==0 || ns.contains (i:Int))
def fnamed (k:Int):List Int:=if k=1 then[1,2,7,8,9] else if k=2 then[1,2,3,4,5,6] else if k=3 then[1,2,3,10,11] else if k=4 then[1,2,12] else if k=5 then[1,2] else if k=6 then[1,2,5,6] else if k=7 then[3,5] else if k=8 then[5,10,11] else[]
theorem rfok_eq (f:SFact):(fzero f (fnamed f.k) && (fpk f && (f.k==1 || decide (f.ex=0))))=fok f:=by
 obtain⟨k,an,aq,rg,nd,pt,pr,oc,dp,pa,st,hw,de,ex⟩:=f;by_cases h1:k=1
 · subst h1;simp only[fpk,fok,fnamed,fzero,fnums,if_true,if_false];generalize idOk an aq=b1;generalize stOk st hw=b2;generalize ctxOk an aq oc dp ex=b3;rw[Bool.eq_iff_iff]
   cases b1<;>cases b2<;>cases b3<;>simp[List.range,List.range.loop]<;>omega
 by_cases h2:k=2
 · subst h2;simp only[fpk,fok,fnamed,fzero,fnums,if_true,if_false,show ¬((2:Int)=1) by decide];generalize idOk an aq=b1;generalize stOk st hw=b2;generalize ctxOk an aq oc dp ex=b3;rw[Bool.eq_iff_iff]
   cases b1<;>cases b2<;>cases b3<;>simp[List.range,List.range.loop]<;>omega
 by_cases h3:k=3
 · subst h3;simp only[fpk,fok,fnamed,fzero,fnums,if_true,if_false,show ¬((3:Int)=1) by decide,show ¬((3:Int)=2) by decide];generalize idOk an aq=b1;generalize stOk st hw=b2;generalize ctxOk an aq oc dp ex=b3;rw[Bool.eq_iff_iff]
   cases b1<;>cases b2<;>cases b3<;>simp[List.range,List.range.loop]<;>omega
 by_cases h4:k=4
 · subst h4;simp only[fpk,fok,fnamed,fzero,fnums,if_true,if_false,show ¬((4:Int)=1) by decide,show ¬((4:Int)=2) by decide,show ¬((4:Int)=3) by decide];generalize idOk an aq=b1;generalize stOk st hw=b2;generalize ctxOk an aq oc dp ex=b3;rw[Bool.eq_iff_iff]
   cases b1<;>cases b2<;>cases b3<;>simp[List.range,List.range.loop]<;>omega
 by_cases h5:k=5
 · subst h5;simp only[fpk,fok,fnamed,fzero,fnums,if_true,if_false,show ¬((5:Int)=1) by decide,show ¬((5:Int)=2) by decide,show ¬((5:Int)=3) by decide,show ¬((5:Int)=4) by decide];generalize idOk an aq=b1;generalize stOk st hw=b2;generalize ctxOk an aq oc dp ex=b3;rw[Bool.eq_iff_iff]
   cases b1<;>cases b2<;>cases b3<;>simp[List.range,List.range.loop]<;>omega
 by_cases h6:k=6
 · subst h6;simp only[fpk,fok,fnamed,fzero,fnums,if_true,if_false,show ¬((6:Int)=1) by decide,show ¬((6:Int)=2) by decide,show ¬((6:Int)=3) by decide,show ¬((6:Int)=4) by decide,show ¬((6:Int)=5) by decide];generalize idOk an aq=b1;generalize stOk st hw=b2;generalize ctxOk an aq oc dp ex=b3;rw[Bool.eq_iff_iff]
   cases b1<;>cases b2<;>cases b3<;>simp[List.range,List.range.loop]<;>omega
 by_cases h7:k=7
 · subst h7;simp only[fpk,fok,fnamed,fzero,fnums,if_true,if_false,show ¬((7:Int)=1) by decide,show ¬((7:Int)=2) by decide,show ¬((7:Int)=3) by decide,show ¬((7:Int)=4) by decide,show ¬((7:Int)=5) by decide,show ¬((7:Int)=6) by decide];generalize idOk an aq=b1;generalize stOk st hw=b2;generalize ctxOk an aq oc dp ex=b3;rw[Bool.eq_iff_iff]
   cases b1<;>cases b2<;>cases b3<;>simp[List.range,List.range.loop]<;>omega
 by_cases h8:k=8
 · subst h8;simp only[fpk,fok,fnamed,fzero,fnums,if_true,if_false,show ¬((8:Int)=1) by decide,show ¬((8:Int)=2) by decide,show ¬((8:Int)=3) by decide,show ¬((8:Int)=4) by decide,show ¬((8:Int)=5) by decide,show ¬((8:Int)=6) by decide,show ¬((8:Int)=7) by decide];generalize idOk an aq=b1;generalize stOk st hw=b2;generalize ctxOk an aq oc dp ex=b3;rw[Bool.eq_iff_iff]
   cases b1<;>cases b2<;>cases b3<;>simp[List.range,List.range.loop]<;>omega
 simp[fpk,fok,h1,h2,h3,h4,h5,h6,h7,h8]
def IntsAt (w:World) (g:Nat) (xs:List Int):Prop:=∀i (h:i<xs.length),w.cell? ⟨g,i,none⟩=some (.int .i64 xs[i])
def Draws (v:Value) (w:World) (e:Ending) (w':World):Prop:=e=.returned v∧∃n,w'=w.drewN n
theorem OwnI.drewN {B:Nat} {v:Value} {xs:List Int} {w:World} (h:OwnI B v xs w) (n:Nat):OwnI B v xs (w.drewN n):=h
theorem Below.drewN {B:Nat} {a w:World} (h:Below B a w) (n:Nat):Below B a (w.drewN n):=⟨h.os,h.tape,h.output,h.size,h.block⟩
theorem RowsAt.alloc {w:World} {b:Nat} {rs:List Row} (h:RowsAt w b rs) (o:Obj):RowsAt (w.alloc o) b rs:=h.below ((Below.refl _ _).alloc (Nat.le_refl _) o)
theorem ActsAt.alloc {w:World} {b:Nat} {rs:List Act'} (h:ActsAt w b rs) (o:Obj):ActsAt (w.alloc o) b rs:=h.below ((Below.refl _ _).alloc (Nat.le_refl _) o)
end Go.Proofs.YtlkajejbfojkeaaGreatDoor
