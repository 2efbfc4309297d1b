/- RstD -/
import Derived.Test.YtlkajejbfojkeaaGreatDoorGSmCToRfcH
set_option linter.unusedSimpArgs false
set_option linter.unusedVariables false
set_option maxRecDepth 100000
set_option maxHeartbeats 16000000
namespace Go.Proofs.YtlkajejbfojkeaaGreatDoor
open Go.RowKit
def RApplyEnds (R:RLoc) (T:Sto) (n:Int) (w:World) (e:Ending) (w':World):Prop:=e=.returned (.int .i64 n)∧RGoes R T w w'
theorem infoRPart:(Tryz.prog.info? 166).map (fun i=>(i.zero,i.size,i.bytes))=some (some (.agg #[.int .i64 0,.int .i64 0,.int .i64 0,.int .i64 0,.int .i64 0,.int .i64 0,.int .i64 0]),7,56):=by kernel_rfl
theorem rapply_bad (R : RLoc) (S : Sto) (f : SFact) (w : World) (hx : F64 f.ex) (h : RStoreAt R S w) (hok : fok f = false) :
    Calls Tryz.prog 22 #[.pointer (some ⟨R.sb,0,none⟩),factV f] w (RApplyEnds R S 4 w):=by
 have hR:=fun W=>rright14_of f hx W
 rw[hok] at hR;have HR:=qq hR;have H:=qq h;obtain⟨k,an,aq,rg,nd,pt,pr,oc,dp,pa,st,hw,de,ex⟩:=f;dsimp only[factV,factC] at*;clear hR h hok hx;go_enter Tryz.func22,Tryz.ntmps22;go_wp2_with fail
 (with_reducible refine(HR.out _).mono ?_)
 rintro e w1 ⟨rfl,hb1⟩;have B1:Below w.heap.size w w1:=below_then (by go_grown) hb1;go_wp2_with fail;go_ret;exact⟨rfl,RGoes.same H.out B1⟩
theorem rjoin_no (R : RLoc) (S : Sto) (f : SFact) (w : World) (hx : F64 f.ex) (h : RStoreAt R S w) (hok : fok f = true) (hk : f.k = 6) (hi : f.pt ≠ (S.parts.length : Int)) :
    Calls Tryz.prog 22 #[.pointer (some ⟨R.sb,0,none⟩),factV f] w (RApplyEnds R S 9 w):=by
 have hR:=fun W=>rright14_of f hx W
 rw[hok] at hR;obtain⟨a,cap,hv,hn,hr⟩:=part_row h.parts;have HR:=qq hR;have H:=qq h;have hsb:=h.blk.lt;obtain⟨n,hnn⟩:∃n,n=S.parts.length:=⟨_,rfl⟩
 rw[←hnn] at hv hi;have HQ:=qq (fun W (hW:RStoreAt R S W)=>(show W.cell? ⟨R.sb,3,none⟩=some (.slice a n cap) by rw[←hv];exact hW.blk.cell 3));obtain⟨k,an,aq,rg,nd,pt,pr,oc,dp,pa,st,hw,de,ex⟩:=f;dsimp only at hi hk;subst hk;dsimp only[factV,factC] at*;have hne:(pt !=(n:Int))=true:=by simpa using hi
 have HN:=qq hne;clear hR h hok hx hi hnn hn hr hv hne;go_enter Tryz.func22,Tryz.ntmps22;go_wp2_with fail
 (with_reducible refine(HR.out _).mono ?_)
 rintro e w1 ⟨rfl,hb1⟩;have B1:Below w.heap.size w w1:=below_then (by go_grown) hb1;have HK1:=qq ((Blk.fresh w #[.int .i64 6,an,aq,rg,nd,pt,pr,oc,dp,pa,st,hw,de,.float .f64 ex] 42 _ rfl).below hb1);have H1:=qq (H.out.below B1);obtain⟨q,qf⟩:=HK1.out.out;have c3:=HQ.out _ H1.out;have hne:=HN.out;go_wp2_with fail;go_region
 all_goals go_wp2_with fail
 all_goals go_ret
 all_goals exact⟨rfl,RGoes.same H.out (below_then B1 (by go_grown))⟩
theorem rjoin_yes (R : RLoc) (S : Sto) (f : SFact) (w : World) (hx : F64 f.ex) (h : RStoreAt R S w) (hok : fok f = true) (hk : f.k = 6) (hl : S.parts.length ≤ 8) (hi : f.pt = (S.parts.length : Int)) :
    Calls Tryz.prog 22 #[.pointer (some ⟨R.sb,0,none⟩),factV f] w (RApplyEnds R {S with parts:=S.parts ++ [⟨f.an,f.aq,-1,⟨f.pr,2,1,0⟩⟩]} 0 w):=by
 have hR:=fun W=>rright14_of f hx W
 rw[hok] at hR;obtain⟨a,cap,hv,hn,hr⟩:=part_row h.parts;have HR:=qq hR;have H:=qq h;have hsb:=h.blk.lt;obtain⟨n,hnn⟩:∃n,n=S.parts.length:=⟨_,rfl⟩
 have HE:=qq (fun W w2 v2 (p:SPart) (h1:RStoreAt R S W) (h2:Below w.heap.size w W) (h3:W.grownBy w2 R.pv.ownBlock) (h4:w2.ownsRow 0 166 7 v2 (n+1) (partsL S.parts ++partL p)) h5=>rjoin_goes h1 h2 h3 (by rw[←hnn];exact h4) h5);have HO:=qq (fun W (hW:RStoreAt R S W)=>(show W.ownsRow 0 166 7 R.pv n (partsL S.parts) by rw[hnn];exact hW.parts));rw[←hnn] at hv hi hl
 have HQ:=qq (fun W (hW:RStoreAt R S W)=>(show W.cell? ⟨R.sb,3,none⟩=some (.slice a n cap) by rw[←hv];exact hW.blk.cell 3));have HV:=qq hv;obtain⟨i0,ei,ez,es,eb⟩:=info_parts infoRPart;obtain⟨k,an,aq,rg,nd,pt,pr,oc,dp,pa,st,hw,de,ex⟩:=f;dsimp only at hi hk;subst hk;subst hi;dsimp only[factV,factC] at*;clear hR h hok hx hn hr hv hnn;go_enter Tryz.func22,Tryz.ntmps22;go_wp2_with fail
 (with_reducible refine(HR.out _).mono ?_)
 rintro e w1 ⟨rfl,hb1⟩;have HK1:=qq ((Blk.fresh w #[.int .i64 6,an,aq,rg,nd,(n:Int),pr,oc,dp,pa,st,hw,de,.float .f64 ex] 42 _ rfl).below hb1);have B1:Below w.heap.size w w1:=below_then (by go_grown) hb1;have H1:=qq (H.out.below B1);have hz1:=hb1.size;simp only[World.size_alloc] at hz1;have hs1:R.sb<w1.heap.size:=by omega
 have hs2:w.heap.size<w1.heap.size:=by omega
 obtain⟨q,qf⟩:=HK1.out.out;have c3:=HQ.out _ H1.out;have hb:=H1.out.blk.free;have hne:((n:Int) !=(n:Int))=false:=by simp
 go_wp2_with fail;go_region;go_wp2_with fail;clear hne
 go_region_law (refine step_app rfl (.tmp 108) (.tmp 115) 32 rfl 0 166 i0 (.agg #[.int .i64 0,.int .i64 0,.int .i64 0,.int .i64 0,.int .i64 0,.int .i64 0,.int .i64 0]) 7 56 Tryz.underlying32 ei ez es eb rfl (by decide) (.slice a n cap) n (partsL S.parts) (by rfl) (by rw[←HV.out];exact HO.out _ (H1.out.below (by go_grown))) ⟨w1.heap.size,0,none⟩ 1 1 (partL ⟨an,aq,-1,⟨pr,2,1,0⟩⟩) (by rfl) rfl (lit_cells (Blk.fresh _ _ _ _ (by simp)).drew.drew) (partL_one _) (by unfold maxLen;omega) (by omega) (Nat.zero_le _) ?_;intro v2 w2 hown2 hgrow2 hat2;rw[←HV.out] at hgrow2 hat2;have s2:w2.cell? ⟨R.sb,3,none⟩=some (.slice a n cap):=hgrow2.cell (HQ.out _ (H1.out.below (by go_grown))) (fun e=>H1.out.ne_top.2.1 e.symm);have f2:w2.frozen? ⟨R.sb,3,none⟩=false:=(World.frozen?_of_block (a:=⟨R.sb,3,none⟩) (hgrow2.block _ (World.block_lt_of_cell? _ _ (HQ.out _ (H1.out.below (by go_grown)))) (fun e=>H1.out.ne_top.2.1 e.symm))).trans ((H1.out.below (by go_grown)).blk.free 3);have HZ:=qq (HE.out _ w2 v2 ⟨an,aq,-1,⟨pr,2,1,0⟩⟩ (H1.out.below (by go_grown)) (below_then B1 (by go_grown)) hgrow2 hown2 hat2);obtain⟨a2,c2,rfl⟩:=row_slice hown2;clear hown2 hgrow2 hat2)
 all_goals go_wp2_with fail
 all_goals go_ret
 all_goals exact⟨rfl,HZ.out⟩
end Go.Proofs.YtlkajejbfojkeaaGreatDoor
