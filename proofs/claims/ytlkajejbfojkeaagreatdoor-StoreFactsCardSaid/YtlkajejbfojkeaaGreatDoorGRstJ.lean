/- RstJ -/
import Derived.Test.YtlkajejbfojkeaaGreatDoorGRstOToRstW
import Derived.Deep.RegionWith
set_option linter.unusedSimpArgs false
set_option linter.unusedVariables false
set_option maxRecDepth 100000
set_option maxHeartbeats 16000000
namespace Go.Proofs.YtlkajejbfojkeaaGreatDoor
open Go.RowKit
attribute [local go_sem] store_float
theorem ract3_len (R : RLoc) (S : Sto) (f : SFact) (i : Nat) (a : SAct) (v : Value) (w : World) (h : RStoreAt R S w) (hl : S.acts.length ≤ 8) (hk : f.k = 3) (hv : R.rv[i]? = some v) (ha : S.acts[i]? = some a) (h1 : (a.regs.length : Int) ≤ f.rg) :
    Calls Tryz.prog 93 #[.pointer (some ⟨R.sb,0,none⟩),.int .i64 (i:Int),factV f] w (fun e w'=>e=.returned (.bool false)∧RGoes R S w w'):=by
 obtain⟨aa,acap,hav,han,har⟩:=act_row h.len h.acts;have hil:i<S.acts.length:=(List.getElem?_eq_some_iff.1 ha).1;obtain⟨g,rfl,hg,hgf,hcell⟩:=har (by omega);obtain⟨a0,a1,a2,a3,a4,a5,a6,a7⟩:=hcell i a v ha hv;have c2:w.cell? ⟨R.sb,2,none⟩=some (.slice (some ⟨g,0,none⟩) S.acts.length acap):=by rw[←hav];exact h.blk.cell 2
 have hsb:=h.blk.lt;have HG:=qq (fun w2 (hb:Below w.heap.size w w2)=>RGoes.same h hb);have hrv:=h.regs i v a hv ha;obtain⟨ra,rcap,hrvs,hrn,hrr⟩:=reg_row hrv;subst hrvs;obtain⟨m,hm⟩:∃m,m=a.regs.length:=⟨_,rfl⟩
 rw[←hm] at a7 h1;obtain⟨n,hn⟩:∃n,n=S.acts.length:=⟨_,rfl⟩
 rw[←hn] at c2 hil hl;have hi0:(0:Int)≤(i:Int):=by omega
 have hi1:(i:Int)<(n:Int):=by omega
 obtain⟨xan,xaq,xoc,xdp,xex,xpa,xde,xrs⟩:=a;obtain⟨k,an,aq,rg,nd,pt,pr,oc,dp,pa,st,hw,de,ex⟩:=f;dsimp only at*;subst hk;dsimp only[factV,factC] at*;have d1:decide ((m:Int)≤rg)=true:=decide_eq_true h1;clear h hv ha hav han har hcell hn a0 a1 a2 a3 a4 a5 a6 hrv hrn hrr hm;go_enter Tryz.func93,Tryz.ntmps93;go_wp2_with fail;go_region
 all_goals go_wp2_with fail
 all_goals go_ret
 all_goals exact⟨rfl,HG.out _ (by go_grown)⟩
theorem ract3_yes (R : RLoc) (S : Sto) (f : SFact) (i : Nat) (a : SAct) (v : Value) (j : Nat) (r : SReg) (w : World) (h : RStoreAt R S w) (hl : S.acts.length ≤ 8) (hk : f.k = 3) (hv : R.rv[i]? = some v) (ha : S.acts[i]? = some a) (hj : f.rg = (j : Int)) (hr : a.regs[j]? = some r) (hrl : a.regs.length ≤ 6) (ht : turnOk r.seat f.st f.hw = true) :
    Calls Tryz.prog 93 #[.pointer (some ⟨R.sb,0,none⟩),.int .i64 (i:Int),factV f] w (fun e w'=>e=.returned (.bool true)∧RGoes R {S with acts:=S.acts.set i {a with regs:=a.regs.set j {r with seat:=⟨r.seat.p,r.seat.d,f.st,f.hw⟩}}} w w'):=by
 obtain⟨aa,acap,hav,han,har⟩:=act_row h.len h.acts;have hil:i<S.acts.length:=(List.getElem?_eq_some_iff.1 ha).1;obtain⟨g,rfl,hg,hgf,hcell⟩:=har (by omega);obtain⟨a0,a1,a2,a3,a4,a5,a6,a7⟩:=hcell i a v ha hv;have c2:w.cell? ⟨R.sb,2,none⟩=some (.slice (some ⟨g,0,none⟩) S.acts.length acap):=by rw[←hav];exact h.blk.cell 2
 have hsb:=h.blk.lt;have hrv:=h.regs i v a hv ha;obtain⟨ra,rcap,hrvs,hrn,hrr⟩:=reg_row hrv;have hjl:=(List.getElem?_eq_some_iff.1 hr).1;obtain⟨rb,rfl,hrb,hrf,hrc⟩:=hrr (by omega);have hrcj:=hrc j r hr;have HG:=qq (fun w2 (hb:Below w.heap.size w w2)=>rseat_reg_goes h hb hv ha hrvs hr ⟨r.seat.p,r.seat.d,f.st,f.hw⟩);have hne:=h.ne_regs hv rb (by rw[hrvs];rfl)
 have hgn1:g≠rb:=fun e=>hne.2.1 (by rw[hav,e];rfl)
 have hgn2:rb≠g:=fun e=>hgn1 e.symm
 subst hrvs;obtain⟨m,hm⟩:∃m,m=a.regs.length:=⟨_,rfl⟩
 rw[←hm] at a7 hjl hrl;have HCL:=qq hrcj;have HFZ:=qq hrf;have hj0:(0:Int)≤(j:Int):=by omega
 have hj1:(j:Int)<(m:Int):=by omega
 have d1:decide ((m:Int)≤(j:Int))=false:=decide_eq_false (by omega);have d2:decide (m≤j)=false:=decide_eq_false (by omega);have HT:=qq (fun W=>rturned_of r.seat f W);rw[ht] at HT;have Q2:=qq c2;have Q7:=qq a7;obtain⟨n,hn⟩:∃n,n=S.acts.length:=⟨_,rfl⟩
 rw[←hn] at c2 hil hl;have hi0:(0:Int)≤(i:Int):=by omega
 have hi1:(i:Int)<(n:Int):=by omega
 rw[←hn] at Q2;obtain⟨rn,rp,⟨sp,sd,ss,sh⟩⟩:=r;obtain⟨xan,xaq,xoc,xdp,xex,xpa,xde,xrs⟩:=a;obtain⟨k,an,aq,rg,nd,pt,pr,oc,dp,pa,st,hw,de,ex⟩:=f;dsimp only at*;subst hk;subst hj;dsimp only[factV,factC] at*;obtain⟨pc0,pc1,pc2,pc3,pc4,pc5⟩:=hrcj;dsimp only at pc0 pc1 pc2 pc3 pc4 pc5;have f1:=hrf;clear h hv ha hav han har hcell hn a0 a1 a2 a3 a4 a5 a6 hrv hrn hrr hm hrc hr ht hne hrf hgf
 go_enter Tryz.func93,Tryz.ntmps93;go_wp2_with fail;go_region
 all_goals go_wp2_with fail
 have HK1:=qq ((Blk.fresh w #[.int .i64 3,an,aq,(j:Int),nd,pt,pr,oc,dp,pa,st,hw,de,.float .f64 ex] 42 _ rfl).drew);have B1:Below w.heap.size w (World.drew (w.alloc (.cells #[.int .i64 3,an,aq,(j:Int),nd,pt,pr,oc,dp,pa,st,hw,de,.float .f64 ex] 42))):=by go_grown
 have hz1:w.heap.size+1=(World.drew (w.alloc (.cells #[.int .i64 3,an,aq,(j:Int),nd,pt,pr,oc,dp,pa,st,hw,de,.float .f64 ex] 42))).heap.size:=by simp
 generalize(World.drew (w.alloc (.cells #[.int .i64 3,an,aq,(j:Int),nd,pt,pr,oc,dp,pa,st,hw,de,.float .f64 ex] 42)))=w1 at*;have hs1:R.sb<w1.heap.size:=by omega
 have hs2:w.heap.size<w1.heap.size:=by omega
 have hg1:g<w1.heap.size:=by omega
 have hb1:rb<w1.heap.size:=by omega
 clear pc0 pc1 pc2 pc3 pc4 pc5 c2 a7 f1;obtain⟨_,_,pc2,pc3,pc4,pc5⟩:=RegC.below HCL.out B1 hrb;dsimp only at pc2 pc3 pc4 pc5;have a7:=(B1.cell (p:=⟨g,i*8+7,none⟩) hg).trans Q7.out;obtain⟨q,qf⟩:=HK1.out.out;have hrn1:rb≠w1.heap.size:=by omega
 have hrn2:w1.heap.size≠rb:=by omega
 have hgn3:g≠w1.heap.size:=by omega
 have hgn4:w1.heap.size≠g:=by omega
 have hwn1:w.heap.size≠w1.heap.size:=by omega
 have hwn2:w1.heap.size≠w.heap.size:=by omega
 have q8:=((HK1.out.alloc (.cells #[.int .i64 0,.int .i64 0,.int .i64 0,.int .i64 0] 164)).drew).cell;have qd:=HK1.out.drew.cell
 go_region_held3 (fun w'=>(∀jj,w'.cell? ⟨w.heap.size,jj,none⟩= #[.int .i64 3,.int .i64 an,.int .i64 aq,.int .i64 (j:Int),.int .i64 nd,.int .i64 pt,.int .i64 pr,.int .i64 oc,.int .i64 dp,.int .i64 pa,.int .i64 st,.int .i64 hw,.int .i64 de,.float .f64 ex][jj]?)∧w'.cell? ⟨g,i*8+7,none⟩=some (.slice (some ⟨rb,0,none⟩) m rcap)∧w'.cell? ⟨rb,j*6+2,none⟩=some (.int .i64 sp)∧w'.cell? ⟨rb,j*6+3,none⟩=some (.int .i64 sd)∧w'.cell? ⟨rb,j*6+4,none⟩=some (.int .i64 ss)∧w'.cell? ⟨rb,j*6+5,none⟩=some (.int .i64 sh))
  (first | exact⟨q,a7,pc2,pc3,pc4,pc5⟩ | exact⟨qd,a7,pc2,pc3,pc4,pc5⟩ | go_keep | ((repeat' apply And.intro)<;>(first | go_keep | exact qd | exact q8 | exact q9 | exact q10 | exact q7))) (first
  | (go_at_call 92;(with_reducible refine(HT.out (World.drew (w1.alloc (.cells #[.int .i64 0,.int .i64 0,.int .i64 0,.int .i64 0] 164)))).mono ?_);rintro e w2 ⟨rfl,hb2⟩;have B2:Below w.heap.size w w2:=below_then (below_then B1 (by go_grown)) hb2;have HK2:=qq ((HK1.out.below (by go_grown)).below hb2);clear q qf a7 pc2 pc3 pc4 pc5 qd;obtain⟨q,qf⟩:=HK2.out.out;obtain⟨_,_,pc2,pc3,pc4,pc5⟩:=RegC.below HCL.out B2 hrb;dsimp only at pc2 pc3 pc4 pc5;have f1:∀j,w2.frozen? ⟨rb,j,none⟩=false:=fun j=>(B2.frozen (p:=⟨rb,j,none⟩) hrb).trans (HFZ.out j);have a7:=(B2.cell (p:=⟨g,i*8+7,none⟩) hg).trans Q7.out;have hz2:=hb2.size;simp only[World.size_alloc,World.size_drew] at hz2;have hs3:R.sb<w2.heap.size:=(by omega);have hs4:w.heap.size<w2.heap.size:=(by omega);have hg2:g<w2.heap.size:=(by omega);have hb3:rb<w2.heap.size:=(by omega);have HB12:Below w1.heap.size w1 w2:=below_then (by go_grown) hb2;have q9:=((HK1.out.below HB12).alloc (.cells #[.int .i64 0,.int .i64 0,.int .i64 0,.int .i64 0] 164)).cell;have q10:=((HK1.out.below HB12).alloc (.cells #[sp,sd,st,hw] 164)).cell;have HS2:Blk w2 w1.heap.size #[.int .i64 0,.int .i64 0,.int .i64 0,.int .i64 0]:=((Blk.fresh w1 #[.int .i64 0,.int .i64 0,.int .i64 0,.int .i64 0] 164 _ rfl).below (by go_grown)).below hb2;have tokA:=True.intro;have s1:=HS2.cell;have s2:=HS2.free;have q7:=((((HK2.out.other (p:=⟨w1.heap.size,0,none⟩) hwn2 (.int .i64 sp)).other (p:=⟨w1.heap.size,1,none⟩) hwn2 (.int .i64 sd)).other (p:=⟨w1.heap.size,2,none⟩) hwn2 (.int .i64 st)).other (p:=⟨w1.heap.size,3,none⟩) hwn2 (.int .i64 hw)).cell;clear HS2)
  | (go_at_call 92;(with_reducible refine(HT.out (World.drew w1)).mono ?_);rintro e w2 ⟨rfl,hb2⟩;have B2:Below w.heap.size w w2:=below_then (below_then B1 (by go_grown)) hb2;have HK2:=qq ((HK1.out.below (by go_grown)).below hb2);clear q qf a7 pc2 pc3 pc4 pc5 qd;obtain⟨q,qf⟩:=HK2.out.out;obtain⟨_,_,pc2,pc3,pc4,pc5⟩:=RegC.below HCL.out B2 hrb;dsimp only at pc2 pc3 pc4 pc5;have f1:∀j,w2.frozen? ⟨rb,j,none⟩=false:=fun j=>(B2.frozen (p:=⟨rb,j,none⟩) hrb).trans (HFZ.out j);have a7:=(B2.cell (p:=⟨g,i*8+7,none⟩) hg).trans Q7.out;have hz2:=hb2.size;simp only[World.size_alloc,World.size_drew] at hz2;have hs3:R.sb<w2.heap.size:=(by omega);have hs4:w.heap.size<w2.heap.size:=(by omega);have hg2:g<w2.heap.size:=(by omega);have hb3:rb<w2.heap.size:=(by omega);have HB12:Below w1.heap.size w1 w2:=below_then (by go_grown) hb2;have q9:=((HK1.out.below HB12).alloc (.cells #[.int .i64 0,.int .i64 0,.int .i64 0,.int .i64 0] 164)).cell;have q10:=((HK1.out.below HB12).alloc (.cells #[sp,sd,st,hw] 164)).cell))
 all_goals go_wp2_with fail
 all_goals go_region
 all_goals go_wp2_with fail
 all_goals go_ret
 all_goals have hs9:w.heap.size≤w2.heap.size:=(by omega)
 all_goals have hs8:w.heap.size≤w1.heap.size:=(by omega)
 all_goals first | (have _t:=tokA;exact⟨rfl,(HG.out _ ((((B2.setCell (p:=⟨w1.heap.size,0,none⟩) hs8 _).setCell (p:=⟨w1.heap.size,1,none⟩) hs8 _).setCell (p:=⟨w1.heap.size,2,none⟩) hs8 _).setCell (p:=⟨w1.heap.size,3,none⟩) hs8 _)).then_below ((Below.refl _ _).drew)⟩) | exact⟨rfl,(HG.out w2 B2).then_below (((Below.refl _ _).alloc (Nat.le_refl _) _).drew)⟩
theorem ract3_no (R : RLoc) (S : Sto) (f : SFact) (i : Nat) (a : SAct) (v : Value) (j : Nat) (r : SReg) (w : World) (h : RStoreAt R S w) (hl : S.acts.length ≤ 8) (hk : f.k = 3) (hv : R.rv[i]? = some v) (ha : S.acts[i]? = some a) (hj : f.rg = (j : Int)) (hr : a.regs[j]? = some r) (hrl : a.regs.length ≤ 6) (ht : turnOk r.seat f.st f.hw = false) :
    Calls Tryz.prog 93 #[.pointer (some ⟨R.sb,0,none⟩),.int .i64 (i:Int),factV f] w (fun e w'=>e=.returned (.bool false)∧RGoes R S w w'):=by
 obtain⟨aa,acap,hav,han,har⟩:=act_row h.len h.acts;have hil:i<S.acts.length:=(List.getElem?_eq_some_iff.1 ha).1;obtain⟨g,rfl,hg,hgf,hcell⟩:=har (by omega);obtain⟨a0,a1,a2,a3,a4,a5,a6,a7⟩:=hcell i a v ha hv;have c2:w.cell? ⟨R.sb,2,none⟩=some (.slice (some ⟨g,0,none⟩) S.acts.length acap):=by rw[←hav];exact h.blk.cell 2
 have hsb:=h.blk.lt;have hrv:=h.regs i v a hv ha;obtain⟨ra,rcap,hrvs,hrn,hrr⟩:=reg_row hrv;have hjl:=(List.getElem?_eq_some_iff.1 hr).1;obtain⟨rb,rfl,hrb,hrf,hrc⟩:=hrr (by omega);have hrcj:=hrc j r hr;have HG:=qq (fun w2 (hb:Below w.heap.size w w2)=>RGoes.same h hb);have hne:=h.ne_regs hv rb (by rw[hrvs];rfl);have hgn1:g≠rb:=fun e=>hne.2.1 (by rw[hav,e];rfl)
 have hgn2:rb≠g:=fun e=>hgn1 e.symm
 subst hrvs;obtain⟨m,hm⟩:∃m,m=a.regs.length:=⟨_,rfl⟩
 rw[←hm] at a7 hjl hrl;have HCL:=qq hrcj;have HFZ:=qq hrf;have hj0:(0:Int)≤(j:Int):=by omega
 have hj1:(j:Int)<(m:Int):=by omega
 have d1:decide ((m:Int)≤(j:Int))=false:=decide_eq_false (by omega);have d2:decide (m≤j)=false:=decide_eq_false (by omega);have HT:=qq (fun W=>rturned_of r.seat f W);rw[ht] at HT;have Q2:=qq c2;have Q7:=qq a7;obtain⟨n,hn⟩:∃n,n=S.acts.length:=⟨_,rfl⟩
 rw[←hn] at c2 hil hl;have hi0:(0:Int)≤(i:Int):=by omega
 have hi1:(i:Int)<(n:Int):=by omega
 rw[←hn] at Q2;obtain⟨rn,rp,⟨sp,sd,ss,sh⟩⟩:=r;obtain⟨xan,xaq,xoc,xdp,xex,xpa,xde,xrs⟩:=a;obtain⟨k,an,aq,rg,nd,pt,pr,oc,dp,pa,st,hw,de,ex⟩:=f;dsimp only at*;subst hk;subst hj;dsimp only[factV,factC] at*;obtain⟨pc0,pc1,pc2,pc3,pc4,pc5⟩:=hrcj;dsimp only at pc0 pc1 pc2 pc3 pc4 pc5;have f1:=hrf;clear h hv ha hav han har hcell hn a0 a1 a2 a3 a4 a5 a6 hrv hrn hrr hm hrc hr ht hne hrf hgf
 go_enter Tryz.func93,Tryz.ntmps93;go_wp2_with fail;go_region
 all_goals go_wp2_with fail
 have HK1:=qq ((Blk.fresh w #[.int .i64 3,an,aq,(j:Int),nd,pt,pr,oc,dp,pa,st,hw,de,.float .f64 ex] 42 _ rfl).drew);have B1:Below w.heap.size w (World.drew (w.alloc (.cells #[.int .i64 3,an,aq,(j:Int),nd,pt,pr,oc,dp,pa,st,hw,de,.float .f64 ex] 42))):=by go_grown
 have hz1:w.heap.size+1=(World.drew (w.alloc (.cells #[.int .i64 3,an,aq,(j:Int),nd,pt,pr,oc,dp,pa,st,hw,de,.float .f64 ex] 42))).heap.size:=by simp
 generalize(World.drew (w.alloc (.cells #[.int .i64 3,an,aq,(j:Int),nd,pt,pr,oc,dp,pa,st,hw,de,.float .f64 ex] 42)))=w1 at*;have hs1:R.sb<w1.heap.size:=by omega
 have hs2:w.heap.size<w1.heap.size:=by omega
 have hg1:g<w1.heap.size:=by omega
 have hb1:rb<w1.heap.size:=by omega
 clear pc0 pc1 pc2 pc3 pc4 pc5 c2 a7 f1;obtain⟨_,_,pc2,pc3,pc4,pc5⟩:=RegC.below HCL.out B1 hrb;dsimp only at pc2 pc3 pc4 pc5;have a7:=(B1.cell (p:=⟨g,i*8+7,none⟩) hg).trans Q7.out;obtain⟨q,qf⟩:=HK1.out.out;have hrn1:rb≠w1.heap.size:=by omega
 have hrn2:w1.heap.size≠rb:=by omega
 have hgn3:g≠w1.heap.size:=by omega
 have hgn4:w1.heap.size≠g:=by omega
 have hwn1:w.heap.size≠w1.heap.size:=by omega
 have hwn2:w1.heap.size≠w.heap.size:=by omega
 have q8:=((HK1.out.alloc (.cells #[.int .i64 0,.int .i64 0,.int .i64 0,.int .i64 0] 164)).drew).cell;have qd:=HK1.out.drew.cell
 go_region_held3 (fun w'=>(∀jj,w'.cell? ⟨w.heap.size,jj,none⟩= #[.int .i64 3,.int .i64 an,.int .i64 aq,.int .i64 (j:Int),.int .i64 nd,.int .i64 pt,.int .i64 pr,.int .i64 oc,.int .i64 dp,.int .i64 pa,.int .i64 st,.int .i64 hw,.int .i64 de,.float .f64 ex][jj]?)∧w'.cell? ⟨g,i*8+7,none⟩=some (.slice (some ⟨rb,0,none⟩) m rcap)∧w'.cell? ⟨rb,j*6+2,none⟩=some (.int .i64 sp)∧w'.cell? ⟨rb,j*6+3,none⟩=some (.int .i64 sd)∧w'.cell? ⟨rb,j*6+4,none⟩=some (.int .i64 ss)∧w'.cell? ⟨rb,j*6+5,none⟩=some (.int .i64 sh))
  (first | exact⟨q,a7,pc2,pc3,pc4,pc5⟩ | exact⟨qd,a7,pc2,pc3,pc4,pc5⟩ | go_keep | ((repeat' apply And.intro)<;>(first | go_keep | exact qd | exact q8 | exact q9 | exact q10 | exact q7))) (first
  | (go_at_call 92;(with_reducible refine(HT.out (World.drew (w1.alloc (.cells #[.int .i64 0,.int .i64 0,.int .i64 0,.int .i64 0] 164)))).mono ?_);rintro e w2 ⟨rfl,hb2⟩;have B2:Below w.heap.size w w2:=below_then (below_then B1 (by go_grown)) hb2;have HK2:=qq ((HK1.out.below (by go_grown)).below hb2);clear q qf a7 pc2 pc3 pc4 pc5 qd;obtain⟨q,qf⟩:=HK2.out.out;obtain⟨_,_,pc2,pc3,pc4,pc5⟩:=RegC.below HCL.out B2 hrb;dsimp only at pc2 pc3 pc4 pc5;have f1:∀j,w2.frozen? ⟨rb,j,none⟩=false:=fun j=>(B2.frozen (p:=⟨rb,j,none⟩) hrb).trans (HFZ.out j);have a7:=(B2.cell (p:=⟨g,i*8+7,none⟩) hg).trans Q7.out;have hz2:=hb2.size;simp only[World.size_alloc,World.size_drew] at hz2;have hs3:R.sb<w2.heap.size:=(by omega);have hs4:w.heap.size<w2.heap.size:=(by omega);have hg2:g<w2.heap.size:=(by omega);have hb3:rb<w2.heap.size:=(by omega);have HB12:Below w1.heap.size w1 w2:=below_then (by go_grown) hb2;have q9:=((HK1.out.below HB12).alloc (.cells #[.int .i64 0,.int .i64 0,.int .i64 0,.int .i64 0] 164)).cell;have q10:=((HK1.out.below HB12).alloc (.cells #[sp,sd,st,hw] 164)).cell;have HS2:Blk w2 w1.heap.size #[.int .i64 0,.int .i64 0,.int .i64 0,.int .i64 0]:=((Blk.fresh w1 #[.int .i64 0,.int .i64 0,.int .i64 0,.int .i64 0] 164 _ rfl).below (by go_grown)).below hb2;have tokA:=True.intro;have s1:=HS2.cell;have s2:=HS2.free;have q7:=((((HK2.out.other (p:=⟨w1.heap.size,0,none⟩) hwn2 (.int .i64 sp)).other (p:=⟨w1.heap.size,1,none⟩) hwn2 (.int .i64 sd)).other (p:=⟨w1.heap.size,2,none⟩) hwn2 (.int .i64 st)).other (p:=⟨w1.heap.size,3,none⟩) hwn2 (.int .i64 hw)).cell;clear HS2)
  | (go_at_call 92;(with_reducible refine(HT.out (World.drew w1)).mono ?_);rintro e w2 ⟨rfl,hb2⟩;have B2:Below w.heap.size w w2:=below_then (below_then B1 (by go_grown)) hb2;have HK2:=qq ((HK1.out.below (by go_grown)).below hb2);clear q qf a7 pc2 pc3 pc4 pc5 qd;obtain⟨q,qf⟩:=HK2.out.out;obtain⟨_,_,pc2,pc3,pc4,pc5⟩:=RegC.below HCL.out B2 hrb;dsimp only at pc2 pc3 pc4 pc5;have f1:∀j,w2.frozen? ⟨rb,j,none⟩=false:=fun j=>(B2.frozen (p:=⟨rb,j,none⟩) hrb).trans (HFZ.out j);have a7:=(B2.cell (p:=⟨g,i*8+7,none⟩) hg).trans Q7.out;have hz2:=hb2.size;simp only[World.size_alloc,World.size_drew] at hz2;have hs3:R.sb<w2.heap.size:=(by omega);have hs4:w.heap.size<w2.heap.size:=(by omega);have hg2:g<w2.heap.size:=(by omega);have hb3:rb<w2.heap.size:=(by omega);have HB12:Below w1.heap.size w1 w2:=below_then (by go_grown) hb2;have q9:=((HK1.out.below HB12).alloc (.cells #[.int .i64 0,.int .i64 0,.int .i64 0,.int .i64 0] 164)).cell;have q10:=((HK1.out.below HB12).alloc (.cells #[sp,sd,st,hw] 164)).cell))
 all_goals go_wp2_with fail
 all_goals go_ret
 all_goals exact⟨rfl,HG.out _ (by have hs9:w.heap.size≤w2.heap.size:=(by omega);have hs8:w.heap.size≤w1.heap.size:=(by omega);go_grown)⟩
end Go.Proofs.YtlkajejbfojkeaaGreatDoor
