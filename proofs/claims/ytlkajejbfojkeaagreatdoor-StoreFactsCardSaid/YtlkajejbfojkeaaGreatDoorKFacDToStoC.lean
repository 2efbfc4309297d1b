/- FacD, FacG, TabL, MovNw, StoC -/
import Derived.Test.YtlkajejbfojkeaaGreatDoorKFacFToFacC
import Derived.Test.YtlkajejbfojkeaaGreatDoorKStoNToStoB
set_option linter.unusedSimpArgs false
set_option linter.unusedVariables false
set_option maxRecDepth 100000
set_option maxHeartbeats 16000000
namespace Go.Proofs.YtlkajejbfojkeaaGreatDoor
open Go.RowKit Go.Shelf
theorem store_float2 {P:Program} {w:World} {a:Addr} {m:Mode} (k:FloatKind) (x:Nat):(store a (.float k x) m).run P w=stored P w a (.float k x) m:=run_store P w a _ m rfl
attribute [local go_sem] store_float2
theorem plain0_of (k an aq rg nd pt pr oc dp pa st hw de:Int) (ex:Nat) (hk:¬(1≤k∧k≤8)) (w:World):Calls Tryz.prog 187 #[.agg #[k,an,aq,rg,nd,pt,pr,oc,dp,pa,st,hw,de,.float .f64 ex]] w (Makes (.tuple #[.agg #[.int .i64 0,.int .i64 0,.int .i64 0,.int .i64 0,.int .i64 0,.int .i64 0,.int .i64 0,.int .i64 0,.int .i64 0,.int .i64 0,.int .i64 0,.int .i64 0,.int .i64 0,.float .f64 0],.bool false]) w):=by
 have e1:(k==1)=false:=by rw[beq_eq_false_iff_ne];omega
 have e2:(k==2)=false:=by rw[beq_eq_false_iff_ne];omega
 have e3:(k==3)=false:=by rw[beq_eq_false_iff_ne];omega
 have e4:(k==4)=false:=by rw[beq_eq_false_iff_ne];omega
 have e5:(k==5)=false:=by rw[beq_eq_false_iff_ne];omega
 have e6:(k==6)=false:=by rw[beq_eq_false_iff_ne];omega
 have e7:(k==7)=false:=by rw[beq_eq_false_iff_ne];omega
 have e8:(k==8)=false:=by rw[beq_eq_false_iff_ne];omega
 clear hk;go_enter Tryz.func187,Tryz.ntmps187;go_wp2_with fail;exact bodyPost_ret (v:=.tuple #[.agg #[.int .i64 0,.int .i64 0,.int .i64 0,.int .i64 0,.int .i64 0,.int .i64 0,.int .i64 0,.int .i64 0,.int .i64 0,.int .i64 0,.int .i64 0,.int .i64 0,.int .i64 0,.float .f64 0],.bool false]) (by simp[results,Tryz.results187,go_sem]) rfl ⟨rfl,by go_grown⟩
theorem plain2_of (an aq rg nd pt pr oc dp pa st hw de:Int) (ex:Nat) (ea:Int→Addr) (w:World) (h:EnvS ea w):Calls Tryz.prog 187 #[.agg #[.int .i64 2,an,aq,rg,nd,pt,pr,oc,dp,pa,st,hw,de,.float .f64 ex]] w (Makes (.tuple #[.agg #[.int .i64 2,an,aq,rg,nd,pt,pr,.int .i64 0,.int .i64 0,.int .i64 0,.int .i64 0,.int .i64 0,.int .i64 0,.float .f64 0],.bool (idOk an aq && decide (0≤rg∧rg≤5) && decide (0≤nd∧nd≤3) && decide (0≤pt∧pt≤7) && decide (1≤pr∧pr≤2))]) w):=by
 have HI:=qq (fun W hW=>idRight_of an aq ea W hW);have H1:=qq (fun W=>isReg_of rg W);have H2:=qq (fun W=>within_of nd 0 3 W);have H3:=qq (fun W=>isPart_of pt W);have H4:=qq (fun W=>within_of pr 1 2 W)
 have HB:=qq (((Below.refl w.heap.size w).alloc (Nat.le_refl _) (.cells #[.int .i64 2,an,aq,rg,nd,pt,pr,oc,dp,pa,st,hw,de,.float .f64 ex] 39)).alloc (by simp) (.cells #[.int .i64 0,.int .i64 0,.int .i64 0,.int .i64 0,.int .i64 0,.int .i64 0,.int .i64 0,.int .i64 0,.int .i64 0,.int .i64 0,.int .i64 0,.int .i64 0,.int .i64 0,.float .f64 0] 39));have HE:=qq (h.below HB.out)
 have HK:=qq ((Blk.fresh w #[.int .i64 2,an,aq,rg,nd,pt,pr,oc,dp,pa,st,hw,de,.float .f64 ex] 39 _ rfl).alloc (.cells #[.int .i64 0,.int .i64 0,.int .i64 0,.int .i64 0,.int .i64 0,.int .i64 0,.int .i64 0,.int .i64 0,.int .i64 0,.int .i64 0,.int .i64 0,.int .i64 0,.int .i64 0,.float .f64 0] 39))
 have HR:=qq (Blk.fresh (w.alloc (.cells #[.int .i64 2,an,aq,rg,nd,pt,pr,oc,dp,pa,st,hw,de,.float .f64 ex] 39)) #[.int .i64 0,.int .i64 0,.int .i64 0,.int .i64 0,.int .i64 0,.int .i64 0,.int .i64 0,.int .i64 0,.int .i64 0,.int .i64 0,.int .i64 0,.int .i64 0,.int .i64 0,.float .f64 0] 39 (w.heap.size+1) (by simp))
 have HT:Hid (((w.alloc (.cells #[.int .i64 2,an,aq,rg,nd,pt,pr,oc,dp,pa,st,hw,de,.float .f64 ex] 39)).alloc (.cells #[.int .i64 0,.int .i64 0,.int .i64 0,.int .i64 0,.int .i64 0,.int .i64 0,.int .i64 0,.int .i64 0,.int .i64 0,.int .i64 0,.int .i64 0,.int .i64 0,.int .i64 0,.float .f64 0] 39)).heap[w.heap.size+1]? =some (.cells #[.int .i64 0,.int .i64 0,.int .i64 0,.int .i64 0,.int .i64 0,.int .i64 0,.int .i64 0,.int .i64 0,.int .i64 0,.int .i64 0,.int .i64 0,.int .i64 0,.int .i64 0,.float .f64 0] 39 (0,0))):=qq (by rw[show w.heap.size+1=(w.alloc (.cells #[.int .i64 2,an,aq,rg,nd,pt,pr,oc,dp,pa,st,hw,de,.float .f64 ex] 39)).heap.size by simp];exact heap_alloc_new _ _)
 clear h
 cases hc0:(idOk an aq)
 · rw[hc0] at HI;clear hc0;go_enter Tryz.func187,Tryz.ntmps187;go_wp2_with fail;refine(HI.out _ HE.out).mono ?_;rintro e w1 ⟨rfl,hb1⟩;obtain⟨q,f⟩:=(HK.out.below hb1).out;have HT1:=qq ((hb1.block _ (Array.getElem?_eq_some_iff.1 HT.out).1).trans HT.out)
   obtain⟨HF,hgr⟩:=row_end (cells:= #[.int .i64 2,.int .i64 an,.int .i64 aq,.int .i64 rg,.int .i64 nd,.int .i64 pt,.int .i64 pr,.int .i64 0,.int .i64 0,.int .i64 0,.int .i64 0,.int .i64 0,.int .i64 0,.float .f64 0]) HT1.out;have HB1:=qq ((below_then HB.out hb1).grown hgr (below_then HB.out hb1).size (fun k hk=>by injection hk with hk;omega));obtain⟨q1,f1⟩:=HF.out;clear hb1 hgr HF
   go_wp2_with (refine wpList_store_row rfl 39 (.tmp 2) (.tmp 76) rfl (w.heap.size+1) #[.int .i64 2,.int .i64 an,.int .i64 aq,.int .i64 rg,.int .i64 nd,.int .i64 pt,.int .i64 pr,.int .i64 0,.int .i64 0,.int .i64 0,.int .i64 0,.int .i64 0,.int .i64 0,.float .f64 0] rfl rfl 39 #[.int .i64 0,.int .i64 0,.int .i64 0,.int .i64 0,.int .i64 0,.int .i64 0,.int .i64 0,.int .i64 0,.int .i64 0,.int .i64 0,.int .i64 0,.int .i64 0,.int .i64 0,.float .f64 0] HT1.out (by kernel_rfl) rfl (by simp[Value.oneCell']) ?_)
   first | done | skip
   exact bodyPost_ret (v:=.tuple #[.agg #[.int .i64 2,an,aq,rg,nd,pt,pr,.int .i64 0,.int .i64 0,.int .i64 0,.int .i64 0,.int .i64 0,.int .i64 0,.float .f64 0],.bool false]) (by simp[results,Tryz.results187,go_sem,q1,f1]) rfl ⟨by simp,HB1.out⟩
 · rw[hc0] at HI;clear hc0
   cases hc1:(decide (0≤rg∧rg≤5))
   · rw[hc1] at H1;clear hc1;go_enter Tryz.func187,Tryz.ntmps187;go_wp2_with fail;refine(HI.out _ HE.out).mono ?_;rintro e w1 ⟨rfl,hb1⟩;obtain⟨q,f⟩:=(HK.out.below hb1).out;have HT1:=qq ((hb1.block _ (Array.getElem?_eq_some_iff.1 HT.out).1).trans HT.out)
     obtain⟨HF,hgr⟩:=row_end (cells:= #[.int .i64 2,.int .i64 an,.int .i64 aq,.int .i64 rg,.int .i64 nd,.int .i64 pt,.int .i64 pr,.int .i64 0,.int .i64 0,.int .i64 0,.int .i64 0,.int .i64 0,.int .i64 0,.float .f64 0]) HT1.out;have HB1:=qq ((below_then HB.out hb1).grown hgr (below_then HB.out hb1).size (fun k hk=>by injection hk with hk;omega));obtain⟨q1,f1⟩:=HF.out;clear hb1 hgr HF
     go_wp2_with fail;refine(H1.out _).mono ?_;rintro e w2 ⟨rfl,rfl⟩
     go_wp2_with (refine wpList_store_row rfl 39 (.tmp 2) (.tmp 76) rfl (w.heap.size+1) #[.int .i64 2,.int .i64 an,.int .i64 aq,.int .i64 rg,.int .i64 nd,.int .i64 pt,.int .i64 pr,.int .i64 0,.int .i64 0,.int .i64 0,.int .i64 0,.int .i64 0,.int .i64 0,.float .f64 0] rfl rfl 39 #[.int .i64 0,.int .i64 0,.int .i64 0,.int .i64 0,.int .i64 0,.int .i64 0,.int .i64 0,.int .i64 0,.int .i64 0,.int .i64 0,.int .i64 0,.int .i64 0,.int .i64 0,.float .f64 0] HT1.out (by kernel_rfl) rfl (by simp[Value.oneCell']) ?_)
     first | done | skip
     exact bodyPost_ret (v:=.tuple #[.agg #[.int .i64 2,an,aq,rg,nd,pt,pr,.int .i64 0,.int .i64 0,.int .i64 0,.int .i64 0,.int .i64 0,.int .i64 0,.float .f64 0],.bool false]) (by simp[results,Tryz.results187,go_sem,q1,f1]) rfl ⟨by simp,HB1.out⟩
   · rw[hc1] at H1;clear hc1
     cases hc2:(decide (0≤nd∧nd≤3))
     · rw[hc2] at H2;clear hc2;go_enter Tryz.func187,Tryz.ntmps187;go_wp2_with fail;refine(HI.out _ HE.out).mono ?_;rintro e w1 ⟨rfl,hb1⟩;obtain⟨q,f⟩:=(HK.out.below hb1).out;have HT1:=qq ((hb1.block _ (Array.getElem?_eq_some_iff.1 HT.out).1).trans HT.out)
       obtain⟨HF,hgr⟩:=row_end (cells:= #[.int .i64 2,.int .i64 an,.int .i64 aq,.int .i64 rg,.int .i64 nd,.int .i64 pt,.int .i64 pr,.int .i64 0,.int .i64 0,.int .i64 0,.int .i64 0,.int .i64 0,.int .i64 0,.float .f64 0]) HT1.out;have HB1:=qq ((below_then HB.out hb1).grown hgr (below_then HB.out hb1).size (fun k hk=>by injection hk with hk;omega));obtain⟨q1,f1⟩:=HF.out;clear hb1 hgr HF
       go_wp2_with fail;refine(H1.out _).mono ?_;rintro e w2 ⟨rfl,rfl⟩;go_wp2_with fail;refine(H2.out _).mono ?_;rintro e w2 ⟨rfl,rfl⟩
       go_wp2_with (refine wpList_store_row rfl 39 (.tmp 2) (.tmp 76) rfl (w.heap.size+1) #[.int .i64 2,.int .i64 an,.int .i64 aq,.int .i64 rg,.int .i64 nd,.int .i64 pt,.int .i64 pr,.int .i64 0,.int .i64 0,.int .i64 0,.int .i64 0,.int .i64 0,.int .i64 0,.float .f64 0] rfl rfl 39 #[.int .i64 0,.int .i64 0,.int .i64 0,.int .i64 0,.int .i64 0,.int .i64 0,.int .i64 0,.int .i64 0,.int .i64 0,.int .i64 0,.int .i64 0,.int .i64 0,.int .i64 0,.float .f64 0] HT1.out (by kernel_rfl) rfl (by simp[Value.oneCell']) ?_)
       first | done | skip
       exact bodyPost_ret (v:=.tuple #[.agg #[.int .i64 2,an,aq,rg,nd,pt,pr,.int .i64 0,.int .i64 0,.int .i64 0,.int .i64 0,.int .i64 0,.int .i64 0,.float .f64 0],.bool false]) (by simp[results,Tryz.results187,go_sem,q1,f1]) rfl ⟨by simp,HB1.out⟩
     · rw[hc2] at H2;clear hc2
       cases hc3:(decide (0≤pt∧pt≤7))
       · rw[hc3] at H3;clear hc3;go_enter Tryz.func187,Tryz.ntmps187;go_wp2_with fail;refine(HI.out _ HE.out).mono ?_;rintro e w1 ⟨rfl,hb1⟩;obtain⟨q,f⟩:=(HK.out.below hb1).out;have HT1:=qq ((hb1.block _ (Array.getElem?_eq_some_iff.1 HT.out).1).trans HT.out)
         obtain⟨HF,hgr⟩:=row_end (cells:= #[.int .i64 2,.int .i64 an,.int .i64 aq,.int .i64 rg,.int .i64 nd,.int .i64 pt,.int .i64 pr,.int .i64 0,.int .i64 0,.int .i64 0,.int .i64 0,.int .i64 0,.int .i64 0,.float .f64 0]) HT1.out;have HB1:=qq ((below_then HB.out hb1).grown hgr (below_then HB.out hb1).size (fun k hk=>by injection hk with hk;omega));obtain⟨q1,f1⟩:=HF.out;clear hb1 hgr HF
         go_wp2_with fail;refine(H1.out _).mono ?_;rintro e w2 ⟨rfl,rfl⟩;go_wp2_with fail;refine(H2.out _).mono ?_;rintro e w2 ⟨rfl,rfl⟩;go_wp2_with fail;refine(H3.out _).mono ?_;rintro e w2 ⟨rfl,rfl⟩
         go_wp2_with (refine wpList_store_row rfl 39 (.tmp 2) (.tmp 76) rfl (w.heap.size+1) #[.int .i64 2,.int .i64 an,.int .i64 aq,.int .i64 rg,.int .i64 nd,.int .i64 pt,.int .i64 pr,.int .i64 0,.int .i64 0,.int .i64 0,.int .i64 0,.int .i64 0,.int .i64 0,.float .f64 0] rfl rfl 39 #[.int .i64 0,.int .i64 0,.int .i64 0,.int .i64 0,.int .i64 0,.int .i64 0,.int .i64 0,.int .i64 0,.int .i64 0,.int .i64 0,.int .i64 0,.int .i64 0,.int .i64 0,.float .f64 0] HT1.out (by kernel_rfl) rfl (by simp[Value.oneCell']) ?_)
         first | done | skip
         exact bodyPost_ret (v:=.tuple #[.agg #[.int .i64 2,an,aq,rg,nd,pt,pr,.int .i64 0,.int .i64 0,.int .i64 0,.int .i64 0,.int .i64 0,.int .i64 0,.float .f64 0],.bool false]) (by simp[results,Tryz.results187,go_sem,q1,f1]) rfl ⟨by simp,HB1.out⟩
       · rw[hc3] at H3;clear hc3;obtain⟨d,hd⟩:∃d,d=(decide (1≤pr∧pr≤2)):=⟨_,rfl⟩
         rw[←hd] at H4⊢;clear hd;go_enter Tryz.func187,Tryz.ntmps187;go_wp2_with fail;refine(HI.out _ HE.out).mono ?_;rintro e w1 ⟨rfl,hb1⟩;obtain⟨q,f⟩:=(HK.out.below hb1).out;have HT1:=qq ((hb1.block _ (Array.getElem?_eq_some_iff.1 HT.out).1).trans HT.out)
         obtain⟨HF,hgr⟩:=row_end (cells:= #[.int .i64 2,.int .i64 an,.int .i64 aq,.int .i64 rg,.int .i64 nd,.int .i64 pt,.int .i64 pr,.int .i64 0,.int .i64 0,.int .i64 0,.int .i64 0,.int .i64 0,.int .i64 0,.float .f64 0]) HT1.out;have HB1:=qq ((below_then HB.out hb1).grown hgr (below_then HB.out hb1).size (fun k hk=>by injection hk with hk;omega));obtain⟨q1,f1⟩:=HF.out;clear hb1 hgr HF
         go_wp2_with fail;refine(H1.out _).mono ?_;rintro e w2 ⟨rfl,rfl⟩;go_wp2_with fail;refine(H2.out _).mono ?_;rintro e w2 ⟨rfl,rfl⟩;go_wp2_with fail;refine(H3.out _).mono ?_;rintro e w2 ⟨rfl,rfl⟩;go_wp2_with fail;refine(H4.out _).mono ?_;rintro e w2 ⟨rfl,rfl⟩
         go_wp2_with (refine wpList_store_row rfl 39 (.tmp 2) (.tmp 76) rfl (w.heap.size+1) #[.int .i64 2,.int .i64 an,.int .i64 aq,.int .i64 rg,.int .i64 nd,.int .i64 pt,.int .i64 pr,.int .i64 0,.int .i64 0,.int .i64 0,.int .i64 0,.int .i64 0,.int .i64 0,.float .f64 0] rfl rfl 39 #[.int .i64 0,.int .i64 0,.int .i64 0,.int .i64 0,.int .i64 0,.int .i64 0,.int .i64 0,.int .i64 0,.int .i64 0,.int .i64 0,.int .i64 0,.int .i64 0,.int .i64 0,.float .f64 0] HT1.out (by kernel_rfl) rfl (by simp[Value.oneCell']) ?_)
         first | done | skip
         exact bodyPost_ret (v:=.tuple #[.agg #[.int .i64 2,an,aq,rg,nd,pt,pr,.int .i64 0,.int .i64 0,.int .i64 0,.int .i64 0,.int .i64 0,.int .i64 0,.float .f64 0],.bool d]) (by simp[results,Tryz.results187,go_sem,q1,f1]) rfl ⟨by simp,HB1.out⟩
def factC (f:SFact):Array Value:= #[.int .i64 f.k,.int .i64 f.an,.int .i64 f.aq,.int .i64 f.rg,.int .i64 f.nd,.int .i64 f.pt,.int .i64 f.pr,.int .i64 f.oc,.int .i64 f.dp,.int .i64 f.pa,.int .i64 f.st,.int .i64 f.hw,.int .i64 f.de,.float .f64 f.ex]
def factV (f:SFact):Value:=.agg (factC f)
def fpl (f:SFact):SFact:=
 if f.k=1 then⟨1,f.an,f.aq,0,0,0,0,f.oc,f.dp,f.pa,0,0,0,f.ex⟩
 else if f.k=2 then⟨2,f.an,f.aq,f.rg,f.nd,f.pt,f.pr,0,0,0,0,0,0,0⟩
 else if f.k=3 then⟨3,f.an,f.aq,f.rg,0,0,0,0,0,0,f.st,f.hw,0,0⟩
 else if f.k=4 then⟨4,f.an,f.aq,0,0,0,0,0,0,0,0,0,f.de,0⟩
 else if f.k=5 then⟨5,f.an,f.aq,0,0,0,0,0,0,0,0,0,0,0⟩
 else if f.k=6 then⟨6,f.an,f.aq,0,0,f.pt,f.pr,0,0,0,0,0,0,0⟩
 else if f.k=7 then⟨7,0,0,f.rg,0,f.pt,0,0,0,0,0,0,0,0⟩
 else if f.k=8 then⟨8,0,0,0,0,f.pt,0,0,0,0,f.st,f.hw,0,0⟩
 else⟨0,0,0,0,0,0,0,0,0,0,0,0,0,0⟩
def fpk (f:SFact):Bool:=
 if f.k=1 then ctxOk f.an f.aq f.oc f.dp f.ex && decide (0≤f.pa∧f.pa≤8)
 else if f.k=2 then idOk f.an f.aq && decide (0≤f.rg∧f.rg≤5) && decide (0≤f.nd∧f.nd≤3) && decide (0≤f.pt∧f.pt≤7) && decide (1≤f.pr∧f.pr≤2)
 else if f.k=3 then idOk f.an f.aq && decide (0≤f.rg∧f.rg≤5) && stOk f.st f.hw
 else if f.k=4 then idOk f.an f.aq && decide (1≤f.de∧f.de≤2)
 else if f.k=5 then idOk f.an f.aq
 else if f.k=6 then idOk f.an f.aq && decide (0≤f.pt∧f.pt≤7) && decide (1≤f.pr∧f.pr≤2)
 else if f.k=7 then decide (0≤f.pt∧f.pt≤7) && decide (0≤f.rg∧f.rg≤5)
 else if f.k=8 then decide (0≤f.pt∧f.pt≤7) && stOk f.st f.hw
 else false
theorem plainF_of (f:SFact) (hx:F64 f.ex) (ea:Int→Addr) (w:World) (h:EnvS ea w):Calls Tryz.prog 187 #[factV f] w (Makes (.tuple #[factV (fpl f),.bool (fpk f)]) w):=by
 obtain⟨k,an,aq,rg,nd,pt,pr,oc,dp,pa,st,hw,de,ex⟩:=f;by_cases h1:k=1
 · subst h1;exact plain1_of an aq rg nd pt pr oc dp pa st hw de ex hx ea w h
 by_cases h2:k=2
 · subst h2;exact plain2_of an aq rg nd pt pr oc dp pa st hw de ex ea w h
 by_cases h3:k=3
 · subst h3;exact plain3_of an aq rg nd pt pr oc dp pa st hw de ex hx ea w h
 by_cases h4:k=4
 · subst h4;exact plain4_of an aq rg nd pt pr oc dp pa st hw de ex hx ea w h
 by_cases h5:k=5
 · subst h5;exact plain5_of an aq rg nd pt pr oc dp pa st hw de ex hx ea w h
 by_cases h6:k=6
 · subst h6;exact plain6_of an aq rg nd pt pr oc dp pa st hw de ex hx ea w h
 by_cases h7:k=7
 · subst h7;exact plain7_of an aq rg nd pt pr oc dp pa st hw de ex hx ea w h
 by_cases h8:k=8
 · subst h8;exact plain8_of an aq rg nd pt pr oc dp pa st hw de ex hx ea w h
 have h0:=plain0_of k an aq rg nd pt pr oc dp pa st hw de ex (by omega) w;have e1:fpl ⟨k,an,aq,rg,nd,pt,pr,oc,dp,pa,st,hw,de,ex⟩=⟨0,0,0,0,0,0,0,0,0,0,0,0,0,0⟩:=by unfold fpl;simp only[h1,h2,h3,h4,h5,h6,h7,h8,if_false]
 have e2:fpk ⟨k,an,aq,rg,nd,pt,pr,oc,dp,pa,st,hw,de,ex⟩=false:=by unfold fpk;simp only[h1,h2,h3,h4,h5,h6,h7,h8,if_false]
 rw[e1,e2];exact h0
open Go.RowKit
def OwnI (B:Nat) (v:Value) (xs:List Int) (w:World):Prop:=w.ownsRow B 3 1 v xs.length (xs.map (Value.int .i64))
theorem infoInt:(Tryz.prog.info? 3).map (fun i=>(i.zero,i.size,i.bytes))=some (some (.int .i64 0),1,8):=by kernel_rfl
def MakesI (xs:List Int) (w:World) (e:Ending) (w':World):Prop:=∃v,e=.returned (.tuple #[v,.nilIface])∧OwnI w.heap.size v xs w'∧Below w.heap.size w w'
theorem ownsRow_mono {w:World} {B B':Nat} {e:TypeId} {size:Nat} {v:Value} {n:Nat} {xs:List Value} (h:w.ownsRow B e size v n xs) (hB:B'≤B):w.ownsRow B' e size v n xs:=by
 refine⟨h.1,?_⟩;rcases h.2 with hn | ⟨g,cap,cur,rfl,hb,r⟩
 · exact .inl hn
 · exact .inr ⟨g,cap,cur,rfl,by omega,r⟩
theorem OwnI.mono {B B':Nat} {v:Value} {xs:List Int} {w:World} (h:OwnI B v xs w) (hB:B'≤B):OwnI B' v xs w:=ownsRow_mono h hB
def Bytes (w:World) (b:Nat) (s:ByteArray):Prop:=b<w.heap.size∧∀i,i<s.size→w.cell? ⟨b,i,none⟩=some (.int .u8 (chr s i))
theorem bytesRow_at (s:ByteArray) (c i:Nat) (h:i<s.size):(bytesRow s c)[i]? =some (.int .u8 (chr s i)):=by
 unfold bytesRow;rw[Array.getElem?_append_left (by simpa using h)];have h':i<s.data.size:=h;simp only[Array.getElem?_map,Array.getElem?_eq_getElem h',Option.map_some];congr 2;exact chr_at h
theorem Bytes.grown {w w':World} {b:Nat} {s:ByteArray} {row:Option Nat} (h:Bytes w b s) (hg:w.grownBy w' row) (hne:some b≠row):Bytes w' b s:=
 ⟨Nat.lt_of_lt_of_le h.1 hg.size,fun i hi=>hg.cell (h.2 i hi) hne⟩
def pick (s:ByteArray) (k:Nat):List Int:=(List.range k).filterMap fun i=>if chr s i=46 then none else some ((i:Int)+1)
theorem pick_succ (s:ByteArray) (k:Nat):pick s (k+1)=pick s k ++(if chr s k=46 then[] else[(k:Int)+1]):=by
 unfold pick;rw[List.range_succ,List.filterMap_append];congr 1;by_cases h:chr s k=46<;>simp[h]
theorem pick_le (s:ByteArray) (k:Nat):(pick s k).length≤k:=by
 unfold pick;have:=List.length_filterMap_le (fun i=>if chr s i=46 then none else some ((i:Int)+1)) (List.range k);simpa using this
theorem states_tab (p d : Int) (t : Tab) (kind en : Int) (str : ByteArray) (rs : List Row) (w : World) (ht : tabOf p d = some t) (hrw : t.rows = (kind, str, en) :: rs) :
    Calls Tryz.prog 220 #[.int .i64 p,.int .i64 d] w (MakesI (pick str 14) w):=by
 have hwf:=wf_tab ht;obtain⟨_,hne,hl,_,hsz,_⟩:=hwf;have HT:=qq ht;clear ht;obtain⟨rw,acts,waits⟩:=t;simp only at hne hsz hl hrw;subst hrw;have hsz:=hsz _ (List.mem_cons_self ..);simp only at hsz;simp only[List.length_cons] at hl;have hcv:=fun w=>run_bytes_of_string (P:=Tryz.prog) w 9 65 5 str Tryz.underlying9 Tryz.underlying65 Tryz.underlying5
 rw[hsz] at hcv;have HSZ:=qq hsz;clear hsz hne;obtain⟨i0,ei,ez,es,eb⟩:=info_parts infoInt;go_enter Tryz.func220,Tryz.ntmps220;go_wp2_with (first
   | (go_at_call 245;refine(of_yes p d _ _ HT.out).mono ?_;rintro e w1 ⟨v,rfl,hT,hb1⟩;obtain⟨br,ba,b1,b2,rfl,hr,ha⟩:=hT;obtain⟨c1,c2,c3⟩:=hr.2 0 (by simp);simp only[List.getElem_cons_zero,Nat.zero_mul,Nat.zero_add] at c1 c2 c3;have hz1:=hb1.size;have hbr:=hr.1))
 clear c1 c2 c3 hcv;go_loopw [8,27] (fun v i wr=>∃k:Nat,k≤14∧i=.int .i64 k∧OwnI (w1.heap.size+2) v (pick str k) wr∧Below w.heap.size w wr∧Hid (Bytes wr (w1.heap.size+1) str)∧w1.heap.size+2≤wr.heap.size) (fun _ i _=>14 - (intOf i).toNat)
 case atStart=>
  refine⟨0,by omega,rfl,World.ownsRow_nil _ _ _ _,?_,qq ⟨by simp,fun i hi=> ?_⟩,by simp⟩
  · exact(((hb1.alloc hb1.size _).alloc (by simp;omega) _).drew)
  · rw[←bytesRow_at str _ i hi];have:=World.cell?_alloc_mark (w1.alloc (.cells #[Value.slice (some {block:=br,off:=0}) (rs.length+1) (rs.length+1),Value.slice (some {block:=ba,off:=0}) acts.length acts.length,Value.string waits] 323));simp only[World.size_alloc] at this;exact this _ _ _ _
 case round=>
  obtain⟨k,hk,rfl,hown,hB,HBy,hwz⟩:=hrel;have hrow:wr.ownsRow (w1.heap.size+2) 3 1 _ (pick str k).length ((pick str k).map (Value.int .i64)):=hown;by_cases hlt:k<14
  · have hcell:=HBy.out.2 k (by rw[HSZ.out];exact hlt);have hbd:=chr_bd str k;have hpl:=pick_le str k;have hps:=pick_succ str k;by_cases hc:chr str k=46
    · have hc':(chr str k !=46)=false:=by simpa using hc
      rw[if_pos hc,List.append_nil] at hps;have HPS:=qq hps;clear hps hc;go_wp2_with fail;go_roundw
      case rel=>exact⟨k+1,by omega,by go_num,by rw[HPS.out];exact hown,hB,HBy,hwz⟩
      case measure=>simp[intOf];omega
    · have hc':(chr str k !=46)=true:=by simpa using hc
      rw[if_neg hc] at hps;have HPS:=qq hps;clear hps hc;go_wp2_with (at_builtin;go_loud (refine wpList_append_own _ rfl _ _ 182 rfl (w1.heap.size+2) 3 i0 (.int .i64 0) 1 8 Tryz.underlying182 ei ez es eb rfl (by decide) _ _ _ rfl (hrow.alloc _) ⟨wr.heap.size,0,none⟩ 1 1 [.int .i64 ((k:Int)+1)] rfl rfl ?c1 ?c2 ?c3 ?c4 ?c5 ?_))
      case c1=>
       intro j u hj
       match j,hj with
       | 0,hj=>simp at hj;subst hj;simp[Addr.add]
      case c2=>intro u hu;simp at hu;subst hu;rfl
      case c3=>unfold maxLen;omega
      case c4=>omega
      case c5=>simp;omega
      · intro v' w2 hown' hgrow _;have hlt':=hrow.lt;have hwz':=hgrow.size;simp only[World.size_alloc] at hwz';have hB':Below w.heap.size w w2:=(hB.alloc hB.size _).grown hgrow (by have:=hB.size;simp;omega) (fun k hk=>by have:=(hlt' k hk).1;omega);have HBy':Bytes w2 (w1.heap.size+1) str:=(HBy.out.grown (World.grownBy_alloc _ _ none) (by simp)).grown hgrow (fun e=>by have:=(hlt' _ e.symm).1;omega)
        have hown2:OwnI (w1.heap.size+2) v' (pick str (k+1)) w2:=by
         rw[HPS.out];unfold OwnI;rw[List.length_append,List.map_append];exact hown'
        clear hown' hgrow hlt' hown hrow hcell;go_wp2;go_roundw
        case rel=>exact⟨k+1,by omega,by go_num,hown2,hB',qq HBy',by omega⟩
        case measure=>simp[intOf];omega
  · obtain rfl:k=14:=by omega
    go_wp2_with fail;go_ret2;exact⟨_,rfl,hown.mono (by omega),hB⟩
theorem sSome_of_side {p d:Int} (h:rSide p d=true):∃t,tabOf p d=some t:=by
 cases ht:tabOf p d with
 | some t=>exact⟨t,rfl⟩
 | none=>rw[tabOf_none ht] at h;cases h
theorem sTab_head {p d:Int} {t:Tab} (ht:tabOf p d=some t):∃k s e r,t.rows=(k,s,e)::r:=by
 rcases tabOf_cases ht with⟨rfl,rfl,rfl⟩ | ⟨rfl,rfl,rfl⟩ | ⟨rfl,rfl,rfl⟩ | ⟨rfl,rfl,rfl⟩
 all_goals exact⟨_,_,_,_,rfl⟩
theorem seatNew_of (p d:Int) (w:World) (hp:1≤p∧p≤2) (hd:d=1∨d=2):Calls Tryz.prog 132 #[.int .i64 p,.int .i64 d] w (Makes (.tuple #[.agg #[p,d,.int .i64 1,.int .i64 0],.nilIface]) w):=by
 have h:rSide p d=true:=by
  obtain rfl | rfl:p=1∨p=2:=by omega
  all_goals (rcases hd with rfl | rfl<;>decide)
 obtain⟨t,ht⟩:=sSome_of_side h;obtain⟨k,s,en,r,hr⟩:=sTab_head ht;have HS:=qq (fun W=>states_tab p d t k en s r W ht hr);clear ht hr h hp hd;go_enter Tryz.func132,Tryz.ntmps132
 go_wp2_with (go_at_call 220;refine(HS.out _).mono ?_;rintro e w1 ⟨v,rfl,_,hb1⟩;obtain⟨q2,f2⟩:=((Blk.fresh w _ _ _ rfl).below hb1).out;have hz1:=hb1.size;simp only[World.size_alloc] at hz1;have B1:Below w.heap.size w w1:=below_then (by go_grown) hb1);exact bodyPost_ret (v:=.tuple #[.agg #[p,d,.int .i64 1,.int .i64 0],.nilIface]) (by simp[results,Tryz.results132,go_sem,q2,f2]) rfl ⟨rfl,by go_grown⟩
theorem turn_yes (g o : Nat) (x t : MSeat) (f : SFact) (ea : Int → Addr) (w : World) (hE : Err3 ea w) (hg : g < w.heap.size) (ht : sturn x f.st f.hw = some t)
    (c0:w.cell? ⟨g,o,none⟩=some (.int .i64 x.p)) (c1:w.cell? ⟨g,o+1,none⟩=some (.int .i64 x.d)) (c2:w.cell? ⟨g,o+2,none⟩=some (.int .i64 x.s)) (c3:w.cell? ⟨g,o+3,none⟩=some (.int .i64 x.h)) (hf:∀i,w.frozen? ⟨g,i,none⟩=false):
    Calls Tryz.prog 190 #[.pointer (some ⟨g,o,none⟩),factV f] w fun e w'=>e=.returned (.bool true)∧∃w1,Below w.heap.size w w1∧w'=putSeat4 w1 g o t:=by
 obtain⟨t1,t2,t3⟩:=sturn_some ht;have hR:=fun W hW=>right_of t ea W hW
 rw[t3] at hR;rw[t2] at hR⊢;dsimp only[seatV] at hR;obtain⟨k,an,aq,rg,nd,pt,pr,oc,dp,pa,st,hw,de,ex⟩:=f;obtain⟨p,d,s,hh⟩:=x;dsimp only[factV,factC] at*;have HR:=qq hR;have HE:=qq hE;have d14:(s==14)=false:=by simpa using t1
 have C:=qq (And.intro c0 (And.intro c1 (And.intro c2 (And.intro c3 hf))));have HG:=qq hg;clear hR hE t1 t2 t3 ht;go_enter Tryz.func190,Tryz.ntmps190;go_wp2_with fail;go_region
 all_goals go_wp2_with fail
 all_goals (refine(HR.out _ (HE.out.below (by go_grown))).mono ?_)
 all_goals (rintro e w1 ⟨rfl,hb1⟩)
 all_goals (obtain⟨q1,f1⟩:=(((Blk.fresh _ #[p,d,st,hw] 53 (w.heap.size+1) (by simp)).drew).below hb1).out)
 all_goals (have B1:Below w.heap.size w w1:=below_then (by go_grown) hb1)
 all_goals (have hlt:=HG.out;have hz1:=hb1.size;simp only[World.size_alloc,World.size_drew] at hz1)
 all_goals (have c0:=(B1.cell (p:=⟨g,o,none⟩) hlt).trans C.out.1;have c1:=(B1.cell (p:=⟨g,o+1,none⟩) hlt).trans C.out.2.1;have c2:=(B1.cell (p:=⟨g,o+2,none⟩) hlt).trans C.out.2.2.1;have c3:=(B1.cell (p:=⟨g,o+3,none⟩) hlt).trans C.out.2.2.2.1;have c4:=fun i=>(B1.frozen (p:=⟨g,i,none⟩) hlt).trans (C.out.2.2.2.2 i))
 all_goals go_wp2_with fail
 all_goals go_ret
 all_goals exact⟨rfl,w1,B1,rfl⟩
theorem turn_no (g o : Nat) (x : MSeat) (f : SFact) (ea : Int → Addr) (w : World) (hE : Err3 ea w) (hg : g < w.heap.size) (ht : sturn x f.st f.hw = none)
    (c0:w.cell? ⟨g,o,none⟩=some (.int .i64 x.p)) (c1:w.cell? ⟨g,o+1,none⟩=some (.int .i64 x.d)) (c2:w.cell? ⟨g,o+2,none⟩=some (.int .i64 x.s)):
    Calls Tryz.prog 190 #[.pointer (some ⟨g,o,none⟩),factV f] w (Makes (.bool false) w):=by
 have hor:x.s=14∨mRight ⟨x.p,x.d,f.st,f.hw⟩=false:=by
  unfold sturn at ht;split at ht
  · assumption
  · cases ht
 have hR:=fun W hW=>right_of ⟨x.p,x.d,f.st,f.hw⟩ ea W hW
 dsimp only[seatV] at hR;obtain⟨k,an,aq,rg,nd,pt,pr,oc,dp,pa,st,hw,de,ex⟩:=f;obtain⟨p,d,s,hh⟩:=x;dsimp only[factV,factC] at*;have HE:=qq hE;have C:=qq (And.intro c0 (And.intro c1 c2));by_cases h14:s=14
 · subst h14;clear hR hE ht hor;go_enter Tryz.func190,Tryz.ntmps190;go_wp2_with fail;go_region
   all_goals go_wp2_with fail
   all_goals go_ret
   all_goals exact⟨rfl,by go_grown⟩
 · have d14:(s==14)=false:=by simpa using h14
   rw[hor.resolve_left h14] at hR;have HR:=qq hR;clear hR hE ht hor h14;go_enter Tryz.func190,Tryz.ntmps190;go_wp2_with fail;go_region
   all_goals go_wp2_with fail
   all_goals (refine(HR.out _ (HE.out.below (by go_grown))).mono ?_)
   all_goals (rintro e w1 ⟨rfl,hb1⟩)
   all_goals (have B1:Below w.heap.size w w1:=below_then (by go_grown) hb1)
   all_goals go_wp2_with fail
   all_goals go_ret
   all_goals exact⟨rfl,B1⟩
end Go.Proofs.YtlkajejbfojkeaaGreatDoor
