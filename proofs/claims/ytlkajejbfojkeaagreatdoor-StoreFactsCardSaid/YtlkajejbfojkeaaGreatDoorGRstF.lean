/- RstF -/
import Derived.Test.YtlkajejbfojkeaaGreatDoorGRstD
import Derived.Deep.RegionWith
set_option linter.unusedSimpArgs false
set_option linter.unusedVariables false
set_option maxRecDepth 100000
set_option maxHeartbeats 16000000
namespace Go.Proofs.YtlkajejbfojkeaaGreatDoor
open Go.RowKit
theorem rnopart8 (R : RLoc) (S : Sto) (f : SFact) (w : World) (hx : F64 f.ex) (h : RStoreAt R S w) (hok : fok f = true) (hk : f.k = 8) (hi : (S.parts.length : Int) ≤ f.pt) :
    Calls Tryz.prog 22 #[.pointer (some ⟨R.sb,0,none⟩),factV f] w (RApplyEnds R S 9 w):=by
 have hR:=fun W=>rright14_of f hx W
 rw[hok] at hR;obtain⟨a,cap,hv,hn,hr⟩:=part_row h.parts;have HR:=qq hR;have H:=qq h;have hsb:=h.blk.lt;obtain⟨n,hnn⟩:∃n,n=S.parts.length:=⟨_,rfl⟩
 rw[←hnn] at hv hi;have HQ:=qq (fun W (hW:RStoreAt R S W)=>(show W.cell? ⟨R.sb,3,none⟩=some (.slice a n cap) by rw[←hv];exact hW.blk.cell 3));obtain⟨k,an,aq,rg,nd,pt,pr,oc,dp,pa,st,hw,de,ex⟩:=f;dsimp only at hi hk;subst hk;dsimp only[factV,factC] at*;clear hR h hok hx hnn hn hr hv;go_enter Tryz.func22,Tryz.ntmps22;go_wp2_with fail
 (with_reducible refine(HR.out _).mono ?_)
 rintro e w1 ⟨rfl,hb1⟩;have B1:Below w.heap.size w w1:=below_then (by go_grown) hb1;have HK1:=qq ((Blk.fresh w #[.int .i64 8,an,aq,rg,nd,pt,pr,oc,dp,pa,st,hw,de,.float .f64 ex] 42 _ rfl).below hb1);have hz1:=hb1.size;simp only[World.size_alloc] at hz1;have hs1:R.sb<w1.heap.size:=by omega
 have hs2:w.heap.size<w1.heap.size:=by omega
 obtain⟨q,qf⟩:=HK1.out.out;have c3:=HQ.out _ (H.out.below B1);have hi3:decide ((n:Int)≤pt)=true:=decide_eq_true hi;go_wp2_with fail;go_region
 all_goals go_wp2_with fail
 all_goals go_ret
 all_goals exact⟨rfl,RGoes.same H.out (below_then B1 (by go_grown))⟩
theorem rpart8_yes (R : RLoc) (S : Sto) (f : SFact) (i : Nat) (p : SPart) (w : World) (hx : F64 f.ex) (h : RStoreAt R S w) (hok : fok f = true) (hk : f.k = 8) (hi : f.pt = (i : Int)) (hp : S.parts[i]? = some p) (ht : turnOk p.seat f.st f.hw = true) :
    Calls Tryz.prog 22 #[.pointer (some ⟨R.sb,0,none⟩),factV f] w (RApplyEnds R {S with parts:=S.parts.set i {p with seat:=⟨p.seat.p,p.seat.d,f.st,f.hw⟩}} 0 w):=by
 have hR:=fun W=>rright14_of f hx W
 rw[hok] at hR;obtain⟨a,cap,hv,hn,hr⟩:=part_row h.parts;have hil:=(List.getElem?_eq_some_iff.1 hp).1;obtain⟨g,rfl,hg,hfz,hcell⟩:=hr (by omega);have hcl:=hcell i p hp;have HG:=qq (fun w2 (hb:Below w.heap.size w w2)=>rseat_part_goes h hb hv hp ⟨p.seat.p,p.seat.d,f.st,f.hw⟩);obtain⟨n,hnn⟩:∃n,n=S.parts.length:=⟨_,rfl⟩
 rw[←hnn] at hv hil;have HR:=qq hR;have HCL:=qq hcl;have HFZ:=qq hfz;have hsb:=h.blk.lt;have HQ:=qq (show w.cell? ⟨R.sb,3,none⟩=some (.slice (some ⟨g,0,none⟩) n cap) by rw[←hv];exact h.blk.cell 3);have hi0:(0:Int)≤(i:Int):=by omega
 have hi1:(i:Int)<(n:Int):=by omega
 have hi2:¬(n:Int)≤(i:Int):=by omega
 have hi3:decide ((n:Int)≤(i:Int))=false:=decide_eq_false hi2;have hi4:¬n≤i:=by omega
 have hi5:decide (n≤i)=false:=decide_eq_false hi4;have HT:=qq (fun W=>rturned_of p.seat f W);rw[ht] at HT;obtain⟨pan,paq,prg,⟨sp,sd,ss,sh⟩⟩:=p;obtain⟨k,an,aq,rg,nd,pt,pr,oc,dp,pa,st,hw,de,ex⟩:=f;dsimp only at hi hk;subst hk;subst hi;dsimp only[factV,factC] at*;clear ht;clear hR h hok hx hnn hn hr hv hcl hcell hp hfz;go_enter Tryz.func22,Tryz.ntmps22;go_wp2_with fail
 (with_reducible refine(HR.out _).mono ?_)
 rintro e w1 ⟨rfl,hb1⟩;have B1:Below w.heap.size w w1:=below_then (by go_grown) hb1;have HK1:=qq ((Blk.fresh w #[.int .i64 8,an,aq,rg,nd,(i:Int),pr,oc,dp,pa,st,hw,de,.float .f64 ex] 42 _ rfl).below hb1);have hz1:=hb1.size;simp only[World.size_alloc] at hz1;have hs1:R.sb<w1.heap.size:=by omega
 have hs2:w.heap.size<w1.heap.size:=by omega
 obtain⟨q,qf⟩:=HK1.out.out;have hg1:g<w1.heap.size:=by omega
 obtain⟨pc0,pc1,pc2,pc3,pc4,pc5,pc6⟩:=PartC.below HCL.out B1 hg;have f1:∀j,w1.frozen? ⟨g,j,none⟩=false:=fun j=>(B1.frozen (p:=⟨g,j,none⟩) hg).trans (HFZ.out j)
 have c3:=(B1.cell (p:=⟨R.sb,3,none⟩) hsb).trans HQ.out;dsimp only at pc0 pc1 pc2 pc3 pc4 pc5 pc6;clear pc0 pc1 pc2;have hgn1:g≠w1.heap.size:=by omega
 have hgn2:w1.heap.size≠g:=by omega
 have hrn1:R.sb≠w1.heap.size:=by omega
 have hrn2:w1.heap.size≠R.sb:=by omega
 have hwn1:w.heap.size≠w1.heap.size:=by omega
 have hwn2:w1.heap.size≠w.heap.size:=by omega
 have q8:=((HK1.out.alloc (.cells #[.int .i64 0,.int .i64 0,.int .i64 0,.int .i64 0] 164)).drew.drew).cell;go_wp2_with fail;go_region
 all_goals go_wp2_with fail
 go_region_held3 (fun w'=>(∀j,w'.cell? ⟨w.heap.size,j,none⟩= #[.int .i64 8,.int .i64 an,.int .i64 aq,.int .i64 rg,.int .i64 nd,.int .i64 (i:Int),.int .i64 pr,.int .i64 oc,.int .i64 dp,.int .i64 pa,.int .i64 st,.int .i64 hw,.int .i64 de,.float .f64 ex][j]?)∧w'.cell? ⟨R.sb,3,none⟩=some (.slice (some ⟨g,0,none⟩) n cap)∧w'.cell? ⟨g,i*7+3,none⟩=some (.int .i64 sp)∧w'.cell? ⟨g,i*7+4,none⟩=some (.int .i64 sd)∧w'.cell? ⟨g,i*7+5,none⟩=some (.int .i64 ss)∧w'.cell? ⟨g,i*7+6,none⟩=some (.int .i64 sh))
  (first | exact⟨q,c3,pc3,pc4,pc5,pc6⟩ | go_keep | ((repeat' apply And.intro)<;>(first | go_keep | exact q8 | exact q9 | exact q10 | exact q7))) (first
  | (go_at_call 92;(with_reducible refine(HT.out (World.drew (World.drew (w1.alloc (.cells #[.int .i64 0,.int .i64 0,.int .i64 0,.int .i64 0] 164))))).mono ?_);rintro e w2 ⟨rfl,hb2⟩;have B2:Below w.heap.size w w2:=below_then (below_then B1 (by go_grown)) hb2;have HK2:=qq ((HK1.out.below (by go_grown)).below hb2);clear q qf c3 pc3 pc4 pc5 pc6 f1;obtain⟨q,qf⟩:=HK2.out.out;obtain⟨_,_,_,pc3,pc4,pc5,pc6⟩:=PartC.below HCL.out B2 hg;dsimp only at pc3 pc4 pc5 pc6;have f1:∀j,w2.frozen? ⟨g,j,none⟩=false:=fun j=>(B2.frozen (p:=⟨g,j,none⟩) hg).trans (HFZ.out j);have c3:=(B2.cell (p:=⟨R.sb,3,none⟩) hsb).trans HQ.out;have hz2:=hb2.size;simp only[World.size_alloc,World.size_drew] at hz2;have hs3:R.sb<w2.heap.size:=(by omega);have hs4:w.heap.size<w2.heap.size:=(by omega);have hg2:g<w2.heap.size:=(by omega);have HB12:Below w1.heap.size w1 w2:=below_then (by go_grown) hb2;have q9:=((HK1.out.below HB12).alloc (.cells #[.int .i64 0,.int .i64 0,.int .i64 0,.int .i64 0] 164)).cell;have q10:=((HK1.out.below HB12).alloc (.cells #[sp,sd,st,hw] 164)).cell;have HS2:Blk w2 w1.heap.size #[.int .i64 0,.int .i64 0,.int .i64 0,.int .i64 0]:=((Blk.fresh w1 #[.int .i64 0,.int .i64 0,.int .i64 0,.int .i64 0] 164 _ rfl).below (by go_grown)).below hb2;have tokA:=True.intro;have s1:=HS2.cell;have s2:=HS2.free;have q7:=((((HK2.out.other (p:=⟨w1.heap.size,0,none⟩) hwn2 (.int .i64 sp)).other (p:=⟨w1.heap.size,1,none⟩) hwn2 (.int .i64 sd)).other (p:=⟨w1.heap.size,2,none⟩) hwn2 (.int .i64 st)).other (p:=⟨w1.heap.size,3,none⟩) hwn2 (.int .i64 hw)).cell;clear HS2)
  | (go_at_call 92;(with_reducible refine(HT.out (World.drew (World.drew w1))).mono ?_);rintro e w2 ⟨rfl,hb2⟩;have B2:Below w.heap.size w w2:=below_then (below_then B1 (by go_grown)) hb2;have HK2:=qq ((HK1.out.below (by go_grown)).below hb2);clear q qf c3 pc3 pc4 pc5 pc6 f1;obtain⟨q,qf⟩:=HK2.out.out;obtain⟨_,_,_,pc3,pc4,pc5,pc6⟩:=PartC.below HCL.out B2 hg;dsimp only at pc3 pc4 pc5 pc6;have f1:∀j,w2.frozen? ⟨g,j,none⟩=false:=fun j=>(B2.frozen (p:=⟨g,j,none⟩) hg).trans (HFZ.out j);have c3:=(B2.cell (p:=⟨R.sb,3,none⟩) hsb).trans HQ.out;have hz2:=hb2.size;simp only[World.size_alloc,World.size_drew] at hz2;have hs3:R.sb<w2.heap.size:=(by omega);have hs4:w.heap.size<w2.heap.size:=(by omega);have hg2:g<w2.heap.size:=(by omega);have HB12:Below w1.heap.size w1 w2:=below_then (by go_grown) hb2;have q9:=((HK1.out.below HB12).alloc (.cells #[.int .i64 0,.int .i64 0,.int .i64 0,.int .i64 0] 164)).cell;have q10:=((HK1.out.below HB12).alloc (.cells #[sp,sd,st,hw] 164)).cell))
 all_goals go_wp2_with fail
 all_goals go_region
 all_goals go_wp2_with fail
 all_goals go_ret
 all_goals have hs9:w.heap.size≤w2.heap.size:=(by omega)
 all_goals have hs8:w.heap.size≤w1.heap.size:=(by omega)
 all_goals first | (have _t:=tokA;exact⟨rfl,(HG.out _ ((((B2.setCell (p:=⟨w1.heap.size,0,none⟩) hs8 _).setCell (p:=⟨w1.heap.size,1,none⟩) hs8 _).setCell (p:=⟨w1.heap.size,2,none⟩) hs8 _).setCell (p:=⟨w1.heap.size,3,none⟩) hs8 _)).then_below ((Below.refl _ _).drew)⟩) | exact⟨rfl,(HG.out w2 B2).then_below (((Below.refl _ _).alloc (Nat.le_refl _) _).drew)⟩
theorem rpart8_no (R : RLoc) (S : Sto) (f : SFact) (i : Nat) (p : SPart) (w : World) (hx : F64 f.ex) (h : RStoreAt R S w) (hok : fok f = true) (hk : f.k = 8) (hi : f.pt = (i : Int)) (hp : S.parts[i]? = some p) (ht : turnOk p.seat f.st f.hw = false) :
    Calls Tryz.prog 22 #[.pointer (some ⟨R.sb,0,none⟩),factV f] w (RApplyEnds R S 9 w):=by
 have hR:=fun W=>rright14_of f hx W
 rw[hok] at hR;obtain⟨a,cap,hv,hn,hr⟩:=part_row h.parts;have hil:=(List.getElem?_eq_some_iff.1 hp).1;obtain⟨g,rfl,hg,hfz,hcell⟩:=hr (by omega);have hcl:=hcell i p hp;have HG:=qq (fun w2 (hb:Below w.heap.size w w2)=>RGoes.same h hb);obtain⟨n,hnn⟩:∃n,n=S.parts.length:=⟨_,rfl⟩
 rw[←hnn] at hv hil;have HR:=qq hR;have HCL:=qq hcl;have HFZ:=qq hfz;have hsb:=h.blk.lt;have HQ:=qq (show w.cell? ⟨R.sb,3,none⟩=some (.slice (some ⟨g,0,none⟩) n cap) by rw[←hv];exact h.blk.cell 3);have hi0:(0:Int)≤(i:Int):=by omega
 have hi1:(i:Int)<(n:Int):=by omega
 have hi2:¬(n:Int)≤(i:Int):=by omega
 have hi3:decide ((n:Int)≤(i:Int))=false:=decide_eq_false hi2;have hi4:¬n≤i:=by omega
 have hi5:decide (n≤i)=false:=decide_eq_false hi4;have HT:=qq (fun W=>rturned_of p.seat f W);rw[ht] at HT;obtain⟨pan,paq,prg,⟨sp,sd,ss,sh⟩⟩:=p;obtain⟨k,an,aq,rg,nd,pt,pr,oc,dp,pa,st,hw,de,ex⟩:=f;dsimp only at hi hk;subst hk;subst hi;dsimp only[factV,factC] at*;clear ht;clear hR h hok hx hnn hn hr hv hcl hcell hp hfz;go_enter Tryz.func22,Tryz.ntmps22;go_wp2_with fail
 (with_reducible refine(HR.out _).mono ?_)
 rintro e w1 ⟨rfl,hb1⟩;have B1:Below w.heap.size w w1:=below_then (by go_grown) hb1;have HK1:=qq ((Blk.fresh w #[.int .i64 8,an,aq,rg,nd,(i:Int),pr,oc,dp,pa,st,hw,de,.float .f64 ex] 42 _ rfl).below hb1);have hz1:=hb1.size;simp only[World.size_alloc] at hz1;have hs1:R.sb<w1.heap.size:=by omega
 have hs2:w.heap.size<w1.heap.size:=by omega
 obtain⟨q,qf⟩:=HK1.out.out;have hg1:g<w1.heap.size:=by omega
 obtain⟨pc0,pc1,pc2,pc3,pc4,pc5,pc6⟩:=PartC.below HCL.out B1 hg;have f1:∀j,w1.frozen? ⟨g,j,none⟩=false:=fun j=>(B1.frozen (p:=⟨g,j,none⟩) hg).trans (HFZ.out j)
 have c3:=(B1.cell (p:=⟨R.sb,3,none⟩) hsb).trans HQ.out;dsimp only at pc0 pc1 pc2 pc3 pc4 pc5 pc6;clear pc0 pc1 pc2;have hgn1:g≠w1.heap.size:=by omega
 have hgn2:w1.heap.size≠g:=by omega
 have hrn1:R.sb≠w1.heap.size:=by omega
 have hrn2:w1.heap.size≠R.sb:=by omega
 have hwn1:w.heap.size≠w1.heap.size:=by omega
 have hwn2:w1.heap.size≠w.heap.size:=by omega
 have q8:=((HK1.out.alloc (.cells #[.int .i64 0,.int .i64 0,.int .i64 0,.int .i64 0] 164)).drew.drew).cell;go_wp2_with fail;go_region
 all_goals go_wp2_with fail
 go_region_held3 (fun w'=>(∀j,w'.cell? ⟨w.heap.size,j,none⟩= #[.int .i64 8,.int .i64 an,.int .i64 aq,.int .i64 rg,.int .i64 nd,.int .i64 (i:Int),.int .i64 pr,.int .i64 oc,.int .i64 dp,.int .i64 pa,.int .i64 st,.int .i64 hw,.int .i64 de,.float .f64 ex][j]?)∧w'.cell? ⟨R.sb,3,none⟩=some (.slice (some ⟨g,0,none⟩) n cap)∧w'.cell? ⟨g,i*7+3,none⟩=some (.int .i64 sp)∧w'.cell? ⟨g,i*7+4,none⟩=some (.int .i64 sd)∧w'.cell? ⟨g,i*7+5,none⟩=some (.int .i64 ss)∧w'.cell? ⟨g,i*7+6,none⟩=some (.int .i64 sh))
  (first | exact⟨q,c3,pc3,pc4,pc5,pc6⟩ | go_keep | ((repeat' apply And.intro)<;>(first | go_keep | exact q8 | exact q9 | exact q10 | exact q7))) (first
  | (go_at_call 92;(with_reducible refine(HT.out (World.drew (World.drew (w1.alloc (.cells #[.int .i64 0,.int .i64 0,.int .i64 0,.int .i64 0] 164))))).mono ?_);rintro e w2 ⟨rfl,hb2⟩;have B2:Below w.heap.size w w2:=below_then (below_then B1 (by go_grown)) hb2;have HK2:=qq ((HK1.out.below (by go_grown)).below hb2);clear q qf c3 pc3 pc4 pc5 pc6 f1;obtain⟨q,qf⟩:=HK2.out.out;obtain⟨_,_,_,pc3,pc4,pc5,pc6⟩:=PartC.below HCL.out B2 hg;dsimp only at pc3 pc4 pc5 pc6;have f1:∀j,w2.frozen? ⟨g,j,none⟩=false:=fun j=>(B2.frozen (p:=⟨g,j,none⟩) hg).trans (HFZ.out j);have c3:=(B2.cell (p:=⟨R.sb,3,none⟩) hsb).trans HQ.out;have hz2:=hb2.size;simp only[World.size_alloc,World.size_drew] at hz2;have hs3:R.sb<w2.heap.size:=(by omega);have hs4:w.heap.size<w2.heap.size:=(by omega);have hg2:g<w2.heap.size:=(by omega);have HB12:Below w1.heap.size w1 w2:=below_then (by go_grown) hb2;have q9:=((HK1.out.below HB12).alloc (.cells #[.int .i64 0,.int .i64 0,.int .i64 0,.int .i64 0] 164)).cell;have q10:=((HK1.out.below HB12).alloc (.cells #[sp,sd,st,hw] 164)).cell;have HS2:Blk w2 w1.heap.size #[.int .i64 0,.int .i64 0,.int .i64 0,.int .i64 0]:=((Blk.fresh w1 #[.int .i64 0,.int .i64 0,.int .i64 0,.int .i64 0] 164 _ rfl).below (by go_grown)).below hb2;have tokA:=True.intro;have s1:=HS2.cell;have s2:=HS2.free;have q7:=((((HK2.out.other (p:=⟨w1.heap.size,0,none⟩) hwn2 (.int .i64 sp)).other (p:=⟨w1.heap.size,1,none⟩) hwn2 (.int .i64 sd)).other (p:=⟨w1.heap.size,2,none⟩) hwn2 (.int .i64 st)).other (p:=⟨w1.heap.size,3,none⟩) hwn2 (.int .i64 hw)).cell;clear HS2)
  | (go_at_call 92;(with_reducible refine(HT.out (World.drew (World.drew w1))).mono ?_);rintro e w2 ⟨rfl,hb2⟩;have B2:Below w.heap.size w w2:=below_then (below_then B1 (by go_grown)) hb2;have HK2:=qq ((HK1.out.below (by go_grown)).below hb2);clear q qf c3 pc3 pc4 pc5 pc6 f1;obtain⟨q,qf⟩:=HK2.out.out;obtain⟨_,_,_,pc3,pc4,pc5,pc6⟩:=PartC.below HCL.out B2 hg;dsimp only at pc3 pc4 pc5 pc6;have f1:∀j,w2.frozen? ⟨g,j,none⟩=false:=fun j=>(B2.frozen (p:=⟨g,j,none⟩) hg).trans (HFZ.out j);have c3:=(B2.cell (p:=⟨R.sb,3,none⟩) hsb).trans HQ.out;have hz2:=hb2.size;simp only[World.size_alloc,World.size_drew] at hz2;have hs3:R.sb<w2.heap.size:=(by omega);have hs4:w.heap.size<w2.heap.size:=(by omega);have hg2:g<w2.heap.size:=(by omega);have HB12:Below w1.heap.size w1 w2:=below_then (by go_grown) hb2;have q9:=((HK1.out.below HB12).alloc (.cells #[.int .i64 0,.int .i64 0,.int .i64 0,.int .i64 0] 164)).cell;have q10:=((HK1.out.below HB12).alloc (.cells #[sp,sd,st,hw] 164)).cell))
 all_goals go_wp2_with fail
 all_goals go_ret
 all_goals exact⟨rfl,HG.out _ (by have hs9:w.heap.size≤w2.heap.size:=(by omega);have hs8:w.heap.size≤w1.heap.size:=(by omega);go_grown)⟩
end Go.Proofs.YtlkajejbfojkeaaGreatDoor
