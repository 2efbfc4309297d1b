/- FacD, FacG, FacH, FacI -/
import Derived.Test.YtlkajejbfojkeaaGreatDoorPFacFToFacC
set_option linter.unusedSimpArgs false
set_option linter.unusedVariables false
set_option maxRecDepth 100000
set_option maxHeartbeats 16000000
namespace Go.Proofs.YtlkajejbfojkeaaGreatDoor
open Go.RowKit Go.Shelf
theorem store_float2 {P:Program} {w:World} {a:Addr} {m:Mode} (k:FloatKind) (x:Nat):(store a (.float k x) m).run P w=stored P w a (.float k x) m:=run_store P w a _ m rfl
attribute [local go_sem] store_float2
theorem plain0_of (k an aq rg nd pt pr oc dp pa st hw de:Int) (ex:Nat) (hk:¬(1≤k∧k≤8)) (w:World):Calls Tryz.prog 187 #[.agg #[k,an,aq,rg,nd,pt,pr,oc,dp,pa,st,hw,de,.float .f64 ex]] w (Makes (.tuple #[.agg #[.int .i64 0,.int .i64 0,.int .i64 0,.int .i64 0,.int .i64 0,.int .i64 0,.int .i64 0,.int .i64 0,.int .i64 0,.int .i64 0,.int .i64 0,.int .i64 0,.int .i64 0,.float .f64 0],.bool false]) w):=by
 have e1:(k==1)=false:=by rw[beq_eq_false_iff_ne];omega
 have e2:(k==2)=false:=by rw[beq_eq_false_iff_ne];omega
 have e3:(k==3)=false:=by rw[beq_eq_false_iff_ne];omega
 have e4:(k==4)=false:=by rw[beq_eq_false_iff_ne];omega
 have e5:(k==5)=false:=by rw[beq_eq_false_iff_ne];omega
 have e6:(k==6)=false:=by rw[beq_eq_false_iff_ne];omega
 have e7:(k==7)=false:=by rw[beq_eq_false_iff_ne];omega
 have e8:(k==8)=false:=by rw[beq_eq_false_iff_ne];omega
 clear hk;go_enter Tryz.func187,Tryz.ntmps187;go_wp2_with fail;exact bodyPost_ret (v:=.tuple #[.agg #[.int .i64 0,.int .i64 0,.int .i64 0,.int .i64 0,.int .i64 0,.int .i64 0,.int .i64 0,.int .i64 0,.int .i64 0,.int .i64 0,.int .i64 0,.int .i64 0,.int .i64 0,.float .f64 0],.bool false]) (by simp[results,Tryz.results187,go_sem]) rfl ⟨rfl,by go_grown⟩
theorem plain2_of (an aq rg nd pt pr oc dp pa st hw de:Int) (ex:Nat) (ea:Int→Addr) (w:World) (h:EnvS ea w):Calls Tryz.prog 187 #[.agg #[.int .i64 2,an,aq,rg,nd,pt,pr,oc,dp,pa,st,hw,de,.float .f64 ex]] w (Makes (.tuple #[.agg #[.int .i64 2,an,aq,rg,nd,pt,pr,.int .i64 0,.int .i64 0,.int .i64 0,.int .i64 0,.int .i64 0,.int .i64 0,.float .f64 0],.bool (idOk an aq && decide (0≤rg∧rg≤5) && decide (0≤nd∧nd≤3) && decide (0≤pt∧pt≤7) && decide (1≤pr∧pr≤2))]) w):=by
 have HI:=qq (fun W hW=>idRight_of an aq ea W hW);have H1:=qq (fun W=>isReg_of rg W);have H2:=qq (fun W=>within_of nd 0 3 W);have H3:=qq (fun W=>isPart_of pt W);have H4:=qq (fun W=>within_of pr 1 2 W)
 have HB:=qq (((Below.refl w.heap.size w).alloc (Nat.le_refl _) (.cells #[.int .i64 2,an,aq,rg,nd,pt,pr,oc,dp,pa,st,hw,de,.float .f64 ex] 39)).alloc (by simp) (.cells #[.int .i64 0,.int .i64 0,.int .i64 0,.int .i64 0,.int .i64 0,.int .i64 0,.int .i64 0,.int .i64 0,.int .i64 0,.int .i64 0,.int .i64 0,.int .i64 0,.int .i64 0,.float .f64 0] 39));have HE:=qq (h.below HB.out)
 have HK:=qq ((Blk.fresh w #[.int .i64 2,an,aq,rg,nd,pt,pr,oc,dp,pa,st,hw,de,.float .f64 ex] 39 _ rfl).alloc (.cells #[.int .i64 0,.int .i64 0,.int .i64 0,.int .i64 0,.int .i64 0,.int .i64 0,.int .i64 0,.int .i64 0,.int .i64 0,.int .i64 0,.int .i64 0,.int .i64 0,.int .i64 0,.float .f64 0] 39))
 have HR:=qq (Blk.fresh (w.alloc (.cells #[.int .i64 2,an,aq,rg,nd,pt,pr,oc,dp,pa,st,hw,de,.float .f64 ex] 39)) #[.int .i64 0,.int .i64 0,.int .i64 0,.int .i64 0,.int .i64 0,.int .i64 0,.int .i64 0,.int .i64 0,.int .i64 0,.int .i64 0,.int .i64 0,.int .i64 0,.int .i64 0,.float .f64 0] 39 (w.heap.size+1) (by simp))
 have HT:Hid (((w.alloc (.cells #[.int .i64 2,an,aq,rg,nd,pt,pr,oc,dp,pa,st,hw,de,.float .f64 ex] 39)).alloc (.cells #[.int .i64 0,.int .i64 0,.int .i64 0,.int .i64 0,.int .i64 0,.int .i64 0,.int .i64 0,.int .i64 0,.int .i64 0,.int .i64 0,.int .i64 0,.int .i64 0,.int .i64 0,.float .f64 0] 39)).heap[w.heap.size+1]? =some (.cells #[.int .i64 0,.int .i64 0,.int .i64 0,.int .i64 0,.int .i64 0,.int .i64 0,.int .i64 0,.int .i64 0,.int .i64 0,.int .i64 0,.int .i64 0,.int .i64 0,.int .i64 0,.float .f64 0] 39 (0,0))):=qq (by rw[show w.heap.size+1=(w.alloc (.cells #[.int .i64 2,an,aq,rg,nd,pt,pr,oc,dp,pa,st,hw,de,.float .f64 ex] 39)).heap.size by simp];exact heap_alloc_new _ _)
 clear h
 cases hc0:(idOk an aq)
 · rw[hc0] at HI;clear hc0;go_enter Tryz.func187,Tryz.ntmps187;go_wp2_with fail;refine(HI.out _ HE.out).mono ?_;rintro e w1 ⟨rfl,hb1⟩;obtain⟨q,f⟩:=(HK.out.below hb1).out;have HT1:=qq ((hb1.block _ (Array.getElem?_eq_some_iff.1 HT.out).1).trans HT.out)
   obtain⟨HF,hgr⟩:=row_end (cells:= #[.int .i64 2,.int .i64 an,.int .i64 aq,.int .i64 rg,.int .i64 nd,.int .i64 pt,.int .i64 pr,.int .i64 0,.int .i64 0,.int .i64 0,.int .i64 0,.int .i64 0,.int .i64 0,.float .f64 0]) HT1.out;have HB1:=qq ((below_then HB.out hb1).grown hgr (below_then HB.out hb1).size (fun k hk=>by injection hk with hk;omega));obtain⟨q1,f1⟩:=HF.out;clear hb1 hgr HF
   go_wp2_with (refine wpList_store_row rfl 39 (.tmp 2) (.tmp 76) rfl (w.heap.size+1) #[.int .i64 2,.int .i64 an,.int .i64 aq,.int .i64 rg,.int .i64 nd,.int .i64 pt,.int .i64 pr,.int .i64 0,.int .i64 0,.int .i64 0,.int .i64 0,.int .i64 0,.int .i64 0,.float .f64 0] rfl rfl 39 #[.int .i64 0,.int .i64 0,.int .i64 0,.int .i64 0,.int .i64 0,.int .i64 0,.int .i64 0,.int .i64 0,.int .i64 0,.int .i64 0,.int .i64 0,.int .i64 0,.int .i64 0,.float .f64 0] HT1.out (by kernel_rfl) rfl (by simp[Value.oneCell']) ?_)
   first | done | skip
   exact bodyPost_ret (v:=.tuple #[.agg #[.int .i64 2,an,aq,rg,nd,pt,pr,.int .i64 0,.int .i64 0,.int .i64 0,.int .i64 0,.int .i64 0,.int .i64 0,.float .f64 0],.bool false]) (by simp[results,Tryz.results187,go_sem,q1,f1]) rfl ⟨by simp,HB1.out⟩
 · rw[hc0] at HI;clear hc0
   cases hc1:(decide (0≤rg∧rg≤5))
   · rw[hc1] at H1;clear hc1;go_enter Tryz.func187,Tryz.ntmps187;go_wp2_with fail;refine(HI.out _ HE.out).mono ?_;rintro e w1 ⟨rfl,hb1⟩;obtain⟨q,f⟩:=(HK.out.below hb1).out;have HT1:=qq ((hb1.block _ (Array.getElem?_eq_some_iff.1 HT.out).1).trans HT.out)
     obtain⟨HF,hgr⟩:=row_end (cells:= #[.int .i64 2,.int .i64 an,.int .i64 aq,.int .i64 rg,.int .i64 nd,.int .i64 pt,.int .i64 pr,.int .i64 0,.int .i64 0,.int .i64 0,.int .i64 0,.int .i64 0,.int .i64 0,.float .f64 0]) HT1.out;have HB1:=qq ((below_then HB.out hb1).grown hgr (below_then HB.out hb1).size (fun k hk=>by injection hk with hk;omega));obtain⟨q1,f1⟩:=HF.out;clear hb1 hgr HF
     go_wp2_with fail;refine(H1.out _).mono ?_;rintro e w2 ⟨rfl,rfl⟩
     go_wp2_with (refine wpList_store_row rfl 39 (.tmp 2) (.tmp 76) rfl (w.heap.size+1) #[.int .i64 2,.int .i64 an,.int .i64 aq,.int .i64 rg,.int .i64 nd,.int .i64 pt,.int .i64 pr,.int .i64 0,.int .i64 0,.int .i64 0,.int .i64 0,.int .i64 0,.int .i64 0,.float .f64 0] rfl rfl 39 #[.int .i64 0,.int .i64 0,.int .i64 0,.int .i64 0,.int .i64 0,.int .i64 0,.int .i64 0,.int .i64 0,.int .i64 0,.int .i64 0,.int .i64 0,.int .i64 0,.int .i64 0,.float .f64 0] HT1.out (by kernel_rfl) rfl (by simp[Value.oneCell']) ?_)
     first | done | skip
     exact bodyPost_ret (v:=.tuple #[.agg #[.int .i64 2,an,aq,rg,nd,pt,pr,.int .i64 0,.int .i64 0,.int .i64 0,.int .i64 0,.int .i64 0,.int .i64 0,.float .f64 0],.bool false]) (by simp[results,Tryz.results187,go_sem,q1,f1]) rfl ⟨by simp,HB1.out⟩
   · rw[hc1] at H1;clear hc1
     cases hc2:(decide (0≤nd∧nd≤3))
     · rw[hc2] at H2;clear hc2;go_enter Tryz.func187,Tryz.ntmps187;go_wp2_with fail;refine(HI.out _ HE.out).mono ?_;rintro e w1 ⟨rfl,hb1⟩;obtain⟨q,f⟩:=(HK.out.below hb1).out;have HT1:=qq ((hb1.block _ (Array.getElem?_eq_some_iff.1 HT.out).1).trans HT.out)
       obtain⟨HF,hgr⟩:=row_end (cells:= #[.int .i64 2,.int .i64 an,.int .i64 aq,.int .i64 rg,.int .i64 nd,.int .i64 pt,.int .i64 pr,.int .i64 0,.int .i64 0,.int .i64 0,.int .i64 0,.int .i64 0,.int .i64 0,.float .f64 0]) HT1.out;have HB1:=qq ((below_then HB.out hb1).grown hgr (below_then HB.out hb1).size (fun k hk=>by injection hk with hk;omega));obtain⟨q1,f1⟩:=HF.out;clear hb1 hgr HF
       go_wp2_with fail;refine(H1.out _).mono ?_;rintro e w2 ⟨rfl,rfl⟩;go_wp2_with fail;refine(H2.out _).mono ?_;rintro e w2 ⟨rfl,rfl⟩
       go_wp2_with (refine wpList_store_row rfl 39 (.tmp 2) (.tmp 76) rfl (w.heap.size+1) #[.int .i64 2,.int .i64 an,.int .i64 aq,.int .i64 rg,.int .i64 nd,.int .i64 pt,.int .i64 pr,.int .i64 0,.int .i64 0,.int .i64 0,.int .i64 0,.int .i64 0,.int .i64 0,.float .f64 0] rfl rfl 39 #[.int .i64 0,.int .i64 0,.int .i64 0,.int .i64 0,.int .i64 0,.int .i64 0,.int .i64 0,.int .i64 0,.int .i64 0,.int .i64 0,.int .i64 0,.int .i64 0,.int .i64 0,.float .f64 0] HT1.out (by kernel_rfl) rfl (by simp[Value.oneCell']) ?_)
       first | done | skip
       exact bodyPost_ret (v:=.tuple #[.agg #[.int .i64 2,an,aq,rg,nd,pt,pr,.int .i64 0,.int .i64 0,.int .i64 0,.int .i64 0,.int .i64 0,.int .i64 0,.float .f64 0],.bool false]) (by simp[results,Tryz.results187,go_sem,q1,f1]) rfl ⟨by simp,HB1.out⟩
     · rw[hc2] at H2;clear hc2
       cases hc3:(decide (0≤pt∧pt≤7))
       · rw[hc3] at H3;clear hc3;go_enter Tryz.func187,Tryz.ntmps187;go_wp2_with fail;refine(HI.out _ HE.out).mono ?_;rintro e w1 ⟨rfl,hb1⟩;obtain⟨q,f⟩:=(HK.out.below hb1).out;have HT1:=qq ((hb1.block _ (Array.getElem?_eq_some_iff.1 HT.out).1).trans HT.out)
         obtain⟨HF,hgr⟩:=row_end (cells:= #[.int .i64 2,.int .i64 an,.int .i64 aq,.int .i64 rg,.int .i64 nd,.int .i64 pt,.int .i64 pr,.int .i64 0,.int .i64 0,.int .i64 0,.int .i64 0,.int .i64 0,.int .i64 0,.float .f64 0]) HT1.out;have HB1:=qq ((below_then HB.out hb1).grown hgr (below_then HB.out hb1).size (fun k hk=>by injection hk with hk;omega));obtain⟨q1,f1⟩:=HF.out;clear hb1 hgr HF
         go_wp2_with fail;refine(H1.out _).mono ?_;rintro e w2 ⟨rfl,rfl⟩;go_wp2_with fail;refine(H2.out _).mono ?_;rintro e w2 ⟨rfl,rfl⟩;go_wp2_with fail;refine(H3.out _).mono ?_;rintro e w2 ⟨rfl,rfl⟩
         go_wp2_with (refine wpList_store_row rfl 39 (.tmp 2) (.tmp 76) rfl (w.heap.size+1) #[.int .i64 2,.int .i64 an,.int .i64 aq,.int .i64 rg,.int .i64 nd,.int .i64 pt,.int .i64 pr,.int .i64 0,.int .i64 0,.int .i64 0,.int .i64 0,.int .i64 0,.int .i64 0,.float .f64 0] rfl rfl 39 #[.int .i64 0,.int .i64 0,.int .i64 0,.int .i64 0,.int .i64 0,.int .i64 0,.int .i64 0,.int .i64 0,.int .i64 0,.int .i64 0,.int .i64 0,.int .i64 0,.int .i64 0,.float .f64 0] HT1.out (by kernel_rfl) rfl (by simp[Value.oneCell']) ?_)
         first | done | skip
         exact bodyPost_ret (v:=.tuple #[.agg #[.int .i64 2,an,aq,rg,nd,pt,pr,.int .i64 0,.int .i64 0,.int .i64 0,.int .i64 0,.int .i64 0,.int .i64 0,.float .f64 0],.bool false]) (by simp[results,Tryz.results187,go_sem,q1,f1]) rfl ⟨by simp,HB1.out⟩
       · rw[hc3] at H3;clear hc3;obtain⟨d,hd⟩:∃d,d=(decide (1≤pr∧pr≤2)):=⟨_,rfl⟩
         rw[←hd] at H4⊢;clear hd;go_enter Tryz.func187,Tryz.ntmps187;go_wp2_with fail;refine(HI.out _ HE.out).mono ?_;rintro e w1 ⟨rfl,hb1⟩;obtain⟨q,f⟩:=(HK.out.below hb1).out;have HT1:=qq ((hb1.block _ (Array.getElem?_eq_some_iff.1 HT.out).1).trans HT.out)
         obtain⟨HF,hgr⟩:=row_end (cells:= #[.int .i64 2,.int .i64 an,.int .i64 aq,.int .i64 rg,.int .i64 nd,.int .i64 pt,.int .i64 pr,.int .i64 0,.int .i64 0,.int .i64 0,.int .i64 0,.int .i64 0,.int .i64 0,.float .f64 0]) HT1.out;have HB1:=qq ((below_then HB.out hb1).grown hgr (below_then HB.out hb1).size (fun k hk=>by injection hk with hk;omega));obtain⟨q1,f1⟩:=HF.out;clear hb1 hgr HF
         go_wp2_with fail;refine(H1.out _).mono ?_;rintro e w2 ⟨rfl,rfl⟩;go_wp2_with fail;refine(H2.out _).mono ?_;rintro e w2 ⟨rfl,rfl⟩;go_wp2_with fail;refine(H3.out _).mono ?_;rintro e w2 ⟨rfl,rfl⟩;go_wp2_with fail;refine(H4.out _).mono ?_;rintro e w2 ⟨rfl,rfl⟩
         go_wp2_with (refine wpList_store_row rfl 39 (.tmp 2) (.tmp 76) rfl (w.heap.size+1) #[.int .i64 2,.int .i64 an,.int .i64 aq,.int .i64 rg,.int .i64 nd,.int .i64 pt,.int .i64 pr,.int .i64 0,.int .i64 0,.int .i64 0,.int .i64 0,.int .i64 0,.int .i64 0,.float .f64 0] rfl rfl 39 #[.int .i64 0,.int .i64 0,.int .i64 0,.int .i64 0,.int .i64 0,.int .i64 0,.int .i64 0,.int .i64 0,.int .i64 0,.int .i64 0,.int .i64 0,.int .i64 0,.int .i64 0,.float .f64 0] HT1.out (by kernel_rfl) rfl (by simp[Value.oneCell']) ?_)
         first | done | skip
         exact bodyPost_ret (v:=.tuple #[.agg #[.int .i64 2,an,aq,rg,nd,pt,pr,.int .i64 0,.int .i64 0,.int .i64 0,.int .i64 0,.int .i64 0,.int .i64 0,.float .f64 0],.bool d]) (by simp[results,Tryz.results187,go_sem,q1,f1]) rfl ⟨by simp,HB1.out⟩
def factC (f:SFact):Array Value:= #[.int .i64 f.k,.int .i64 f.an,.int .i64 f.aq,.int .i64 f.rg,.int .i64 f.nd,.int .i64 f.pt,.int .i64 f.pr,.int .i64 f.oc,.int .i64 f.dp,.int .i64 f.pa,.int .i64 f.st,.int .i64 f.hw,.int .i64 f.de,.float .f64 f.ex]
def factV (f:SFact):Value:=.agg (factC f)
def fpl (f:SFact):SFact:=
 if f.k=1 then⟨1,f.an,f.aq,0,0,0,0,f.oc,f.dp,f.pa,0,0,0,f.ex⟩
 else if f.k=2 then⟨2,f.an,f.aq,f.rg,f.nd,f.pt,f.pr,0,0,0,0,0,0,0⟩
 else if f.k=3 then⟨3,f.an,f.aq,f.rg,0,0,0,0,0,0,f.st,f.hw,0,0⟩
 else if f.k=4 then⟨4,f.an,f.aq,0,0,0,0,0,0,0,0,0,f.de,0⟩
 else if f.k=5 then⟨5,f.an,f.aq,0,0,0,0,0,0,0,0,0,0,0⟩
 else if f.k=6 then⟨6,f.an,f.aq,0,0,f.pt,f.pr,0,0,0,0,0,0,0⟩
 else if f.k=7 then⟨7,0,0,f.rg,0,f.pt,0,0,0,0,0,0,0,0⟩
 else if f.k=8 then⟨8,0,0,0,0,f.pt,0,0,0,0,f.st,f.hw,0,0⟩
 else⟨0,0,0,0,0,0,0,0,0,0,0,0,0,0⟩
def fpk (f:SFact):Bool:=
 if f.k=1 then ctxOk f.an f.aq f.oc f.dp f.ex && decide (0≤f.pa∧f.pa≤8)
 else if f.k=2 then idOk f.an f.aq && decide (0≤f.rg∧f.rg≤5) && decide (0≤f.nd∧f.nd≤3) && decide (0≤f.pt∧f.pt≤7) && decide (1≤f.pr∧f.pr≤2)
 else if f.k=3 then idOk f.an f.aq && decide (0≤f.rg∧f.rg≤5) && stOk f.st f.hw
 else if f.k=4 then idOk f.an f.aq && decide (1≤f.de∧f.de≤2)
 else if f.k=5 then idOk f.an f.aq
 else if f.k=6 then idOk f.an f.aq && decide (0≤f.pt∧f.pt≤7) && decide (1≤f.pr∧f.pr≤2)
 else if f.k=7 then decide (0≤f.pt∧f.pt≤7) && decide (0≤f.rg∧f.rg≤5)
 else if f.k=8 then decide (0≤f.pt∧f.pt≤7) && stOk f.st f.hw
 else false
theorem plainF_of (f:SFact) (hx:F64 f.ex) (ea:Int→Addr) (w:World) (h:EnvS ea w):Calls Tryz.prog 187 #[factV f] w (Makes (.tuple #[factV (fpl f),.bool (fpk f)]) w):=by
 obtain⟨k,an,aq,rg,nd,pt,pr,oc,dp,pa,st,hw,de,ex⟩:=f;by_cases h1:k=1
 · subst h1;exact plain1_of an aq rg nd pt pr oc dp pa st hw de ex hx ea w h
 by_cases h2:k=2
 · subst h2;exact plain2_of an aq rg nd pt pr oc dp pa st hw de ex ea w h
 by_cases h3:k=3
 · subst h3;exact plain3_of an aq rg nd pt pr oc dp pa st hw de ex hx ea w h
 by_cases h4:k=4
 · subst h4;exact plain4_of an aq rg nd pt pr oc dp pa st hw de ex hx ea w h
 by_cases h5:k=5
 · subst h5;exact plain5_of an aq rg nd pt pr oc dp pa st hw de ex hx ea w h
 by_cases h6:k=6
 · subst h6;exact plain6_of an aq rg nd pt pr oc dp pa st hw de ex hx ea w h
 by_cases h7:k=7
 · subst h7;exact plain7_of an aq rg nd pt pr oc dp pa st hw de ex hx ea w h
 by_cases h8:k=8
 · subst h8;exact plain8_of an aq rg nd pt pr oc dp pa st hw de ex hx ea w h
 have h0:=plain0_of k an aq rg nd pt pr oc dp pa st hw de ex (by omega) w;have e1:fpl ⟨k,an,aq,rg,nd,pt,pr,oc,dp,pa,st,hw,de,ex⟩=⟨0,0,0,0,0,0,0,0,0,0,0,0,0,0⟩:=by unfold fpl;simp only[h1,h2,h3,h4,h5,h6,h7,h8,if_false]
 have e2:fpk ⟨k,an,aq,rg,nd,pt,pr,oc,dp,pa,st,hw,de,ex⟩=false:=by unfold fpk;simp only[h1,h2,h3,h4,h5,h6,h7,h8,if_false]
 rw[e1,e2];exact h0
attribute [local go_sem] store_float
def sameF (p f:SFact):Bool:=decide (fplain p.ex=fplain f.ex) && (p.k==f.k && (p.an==f.an && (p.aq==f.aq && (p.rg==f.rg && (p.nd==f.nd && (p.pt==f.pt && (p.pr==f.pr && (p.oc==f.oc && (p.dp==f.dp && (p.pa==f.pa && (p.st==f.st && (p.hw==f.hw && (p.de==f.de)))))))))))))
theorem factRight_go (f p : SFact) (bk : Bool) (hx : F64 f.ex) (hp : F64 p.ex) (ea : Int → Addr) (w : World) (h : EnvS ea w) (hP : ∀ W, EnvS ea W → Calls Tryz.prog 187 #[factV f] W (Makes (.tuple #[factV p, .bool bk]) W)) :
    Calls Tryz.prog 83 #[factV f] w (Makes (.bool (bk && sameF p f && (forder p.ex f.ex==0))) w):=by
 have hS:∀W,Calls Tryz.prog 188 #[factV p,factV f] W (Makes (.bool (sameF p f)) W):=fun W=>factsSame_of _ _ _ _ _ _ _ _ _ _ _ _ _ _ _ _ _ _ _ _ _ _ _ _ _ _ p.ex f.ex hp hx W
 have hO:=fun W=>forder_of p.ex f.ex hp hx W
 generalize sameF p f=bs at*;generalize forder p.ex f.ex=o at*;obtain⟨k,an,aq,rg,nd,pt,pr,oc,dp,pa,st,hw,de,ex⟩:=f;obtain⟨k',an',aq',rg',nd',pt',pr',oc',dp',pa',st',hw',de',ex'⟩:=p;dsimp only[factV,factC] at*;have HK:=qq (Blk.fresh w #[k,an,aq,rg,nd,pt,pr,oc,dp,pa,st,hw,de,.float .f64 ex] 39 _ rfl)
 have HB:=qq ((Below.refl w.heap.size w).alloc (Nat.le_refl _) (.cells #[k,an,aq,rg,nd,pt,pr,oc,dp,pa,st,hw,de,.float .f64 ex] 39));have HP:=qq (hP _ (h.below HB.out));have HS:=qq hS;have HO:=qq hO;clear h hP hS hO hx hp;go_enter Tryz.func83,Tryz.ntmps83;go_wp2_with fail;refine HP.out.mono ?_;rintro e w1 ⟨rfl,hb1⟩;have HB1:=qq (below_then HB.out hb1);have HK1:=qq (HK.out.below hb1)
 have HK2:=qq (HK1.out.alloc (.cells #[k',an',aq',rg',nd',pt',pr',oc',dp',pa',st',hw',de',.float .f64 ex'] 39));have HC2:=qq (Blk.fresh w1 #[k',an',aq',rg',nd',pt',pr',oc',dp',pa',st',hw',de',.float .f64 ex'] 39 _ rfl);have HB2:=qq (HB1.out.alloc HB1.out.size (.cells #[k',an',aq',rg',nd',pt',pr',oc',dp',pa',st',hw',de',.float .f64 ex'] 39));clear hb1
 cases bk with
 | false=>
  go_wp2_with fail;go_ret;exact⟨ret_bool (by simp),HB2.out⟩
 | true=>
  obtain⟨q,f⟩:=HK2.out.out;obtain⟨q1,f1⟩:=HC2.out.out;go_wp2_with fail;refine(HS.out _).mono ?_;rintro e w2 ⟨rfl,hb2⟩;have HB3:=qq (below_then HB2.out hb2);clear q f q1 f1;obtain⟨q,f⟩:=(HK2.out.below hb2).out;obtain⟨q1,f1⟩:=(HC2.out.below hb2).out;clear hb2
  cases bs with
  | false=>
   go_wp2_with fail;go_ret;exact⟨ret_bool (by simp),HB3.out⟩
  | true=>
   go_wp2_with fail;refine(HO.out _).mono ?_;rintro e w3 ⟨rfl,rfl⟩;go_wp2_with fail;go_ret;exact⟨ret_bool (by simp),HB3.out⟩
theorem forder_zero (x:Nat):(forder 0 x==0)=decide (x=0):=by
 have h0:fplace 0=0:=by decide+kernel
 unfold forder;rw[h0];unfold fplace;by_cases hn:fnan x=true
 · rw[if_pos hn];have hx:x≠0:=by rintro rfl;revert hn;decide+kernel
   simp[hx]
 · rw[if_neg hn];by_cases hl:x<9223372036854775808
   · rw[if_pos hl];by_cases hx:x=0
     · subst hx;simp
     · have:¬((x:Int)<0):=by omega
       have h2:(0:Int)<(x:Int):=by omega
       rw[if_pos h2];simp[hx]
   · rw[if_neg hl];have hx:x≠0:=by omega
     have h1:¬((0:Int)< -1 - ((x:Int) - 9223372036854775808)):=by omega
     have h2: -1 - ((x:Int) - 9223372036854775808)<0:=by omega
     rw[if_neg h1,if_pos h2];simp[hx]
theorem forder_refl (x:Nat):(forder x x==0)=true:=by simp[forder]
theorem fpl_same (f:SFact):(fpk f && sameF (fpl f) f && (forder (fpl f).ex f.ex==0))=fok f:=by
 obtain⟨k,an,aq,rg,nd,pt,pr,oc,dp,pa,st,hw,de,ex⟩:=f;by_cases h1:k=1
 · subst h1;simp only[fpk,fpl,sameF,fok,if_true,forder_refl,Bool.and_true];rw[Bool.eq_iff_iff];simp;omega
 have hz:=forder_zero ex;by_cases h2:k=2
 · subst h2;by_cases hex:ex=0
   · subst hex;simp only[fpk,fpl,sameF,fok,if_true,forder_refl,Bool.and_true,show ¬((2:Int)=1) by decide,if_false];generalize idOk an aq=b1;generalize stOk st hw=b2;rw[Bool.eq_iff_iff]
     cases b1<;>cases b2<;>simp<;>omega
   · have hd:decide (ex=0)=false:=decide_eq_false hex;rw[hd] at hz;simp only[fpk,fpl,sameF,fok,if_true,Bool.and_true,show ¬((2:Int)=1) by decide,if_false,hz,Bool.and_false];simp[hex]
 by_cases h3:k=3
 · subst h3;by_cases hex:ex=0
   · subst hex;simp only[fpk,fpl,sameF,fok,if_true,forder_refl,Bool.and_true,show ¬((3:Int)=1) by decide,if_false,show ¬((3:Int)=2) by decide];generalize idOk an aq=b1;generalize stOk st hw=b2;rw[Bool.eq_iff_iff]
     cases b1<;>cases b2<;>simp<;>omega
   · have hd:decide (ex=0)=false:=decide_eq_false hex;rw[hd] at hz;simp only[fpk,fpl,sameF,fok,if_true,Bool.and_true,show ¬((3:Int)=1) by decide,if_false,show ¬((3:Int)=2) by decide,hz,Bool.and_false];simp[hex]
 by_cases h4:k=4
 · subst h4;by_cases hex:ex=0
   · subst hex;simp only[fpk,fpl,sameF,fok,if_true,forder_refl,Bool.and_true,show ¬((4:Int)=1) by decide,if_false,show ¬((4:Int)=2) by decide,show ¬((4:Int)=3) by decide];generalize idOk an aq=b1;generalize stOk st hw=b2;rw[Bool.eq_iff_iff]
     cases b1<;>cases b2<;>simp<;>omega
   · have hd:decide (ex=0)=false:=decide_eq_false hex;rw[hd] at hz;simp only[fpk,fpl,sameF,fok,if_true,Bool.and_true,show ¬((4:Int)=1) by decide,if_false,show ¬((4:Int)=2) by decide,show ¬((4:Int)=3) by decide,hz,Bool.and_false];simp[hex]
 by_cases h5:k=5
 · subst h5;by_cases hex:ex=0
   · subst hex;simp only[fpk,fpl,sameF,fok,if_true,forder_refl,Bool.and_true,show ¬((5:Int)=1) by decide,if_false,show ¬((5:Int)=2) by decide,show ¬((5:Int)=3) by decide,show ¬((5:Int)=4) by decide];generalize idOk an aq=b1;generalize stOk st hw=b2;rw[Bool.eq_iff_iff]
     cases b1<;>cases b2<;>simp<;>omega
   · have hd:decide (ex=0)=false:=decide_eq_false hex;rw[hd] at hz;simp only[fpk,fpl,sameF,fok,if_true,Bool.and_true,show ¬((5:Int)=1) by decide,if_false,show ¬((5:Int)=2) by decide,show ¬((5:Int)=3) by decide,show ¬((5:Int)=4) by decide,hz,Bool.and_false];simp[hex]
 by_cases h6:k=6
 · subst h6;by_cases hex:ex=0
   · subst hex;simp only[fpk,fpl,sameF,fok,if_true,forder_refl,Bool.and_true,show ¬((6:Int)=1) by decide,if_false,show ¬((6:Int)=2) by decide,show ¬((6:Int)=3) by decide,show ¬((6:Int)=4) by decide,show ¬((6:Int)=5) by decide];generalize idOk an aq=b1;generalize stOk st hw=b2;rw[Bool.eq_iff_iff]
     cases b1<;>cases b2<;>simp<;>omega
   · have hd:decide (ex=0)=false:=decide_eq_false hex;rw[hd] at hz;simp only[fpk,fpl,sameF,fok,if_true,Bool.and_true,show ¬((6:Int)=1) by decide,if_false,show ¬((6:Int)=2) by decide,show ¬((6:Int)=3) by decide,show ¬((6:Int)=4) by decide,show ¬((6:Int)=5) by decide,hz,Bool.and_false];simp[hex]
 by_cases h7:k=7
 · subst h7;by_cases hex:ex=0
   · subst hex;simp only[fpk,fpl,sameF,fok,if_true,forder_refl,Bool.and_true,show ¬((7:Int)=1) by decide,if_false,show ¬((7:Int)=2) by decide,show ¬((7:Int)=3) by decide,show ¬((7:Int)=4) by decide,show ¬((7:Int)=5) by decide,show ¬((7:Int)=6) by decide];generalize idOk an aq=b1;generalize stOk st hw=b2;rw[Bool.eq_iff_iff]
     cases b1<;>cases b2<;>simp<;>omega
   · have hd:decide (ex=0)=false:=decide_eq_false hex;rw[hd] at hz;simp only[fpk,fpl,sameF,fok,if_true,Bool.and_true,show ¬((7:Int)=1) by decide,if_false,show ¬((7:Int)=2) by decide,show ¬((7:Int)=3) by decide,show ¬((7:Int)=4) by decide,show ¬((7:Int)=5) by decide,show ¬((7:Int)=6) by decide,hz,Bool.and_false];simp[hex]
 by_cases h8:k=8
 · subst h8;by_cases hex:ex=0
   · subst hex;simp only[fpk,fpl,sameF,fok,if_true,forder_refl,Bool.and_true,show ¬((8:Int)=1) by decide,if_false,show ¬((8:Int)=2) by decide,show ¬((8:Int)=3) by decide,show ¬((8:Int)=4) by decide,show ¬((8:Int)=5) by decide,show ¬((8:Int)=6) by decide,show ¬((8:Int)=7) by decide];generalize idOk an aq=b1;generalize stOk st hw=b2;rw[Bool.eq_iff_iff]
     cases b1<;>cases b2<;>simp<;>omega
   · have hd:decide (ex=0)=false:=decide_eq_false hex;rw[hd] at hz;simp only[fpk,fpl,sameF,fok,if_true,Bool.and_true,show ¬((8:Int)=1) by decide,if_false,show ¬((8:Int)=2) by decide,show ¬((8:Int)=3) by decide,show ¬((8:Int)=4) by decide,show ¬((8:Int)=5) by decide,show ¬((8:Int)=6) by decide,show ¬((8:Int)=7) by decide,hz,Bool.and_false];simp[hex]
 by_cases hex:ex=0
 all_goals simp[fpk,fok,h1,h2,h3,h4,h5,h6,h7,h8]
theorem factRight_of (f:SFact) (hx:F64 f.ex) (ea:Int→Addr) (w:World) (h:EnvS ea w):Calls Tryz.prog 83 #[factV f] w (Makes (.bool (fok f)) w):=by
 have hp:F64 (fpl f).ex:=by
  unfold fpl
  repeat' split
  all_goals first | exact hx | exact f64_zero
 rw[←fpl_same f];exact factRight_go f (fpl f) (fpk f) hx hp ea w h (fun W hW=>plainF_of f hx ea W hW)
end Go.Proofs.YtlkajejbfojkeaaGreatDoor
