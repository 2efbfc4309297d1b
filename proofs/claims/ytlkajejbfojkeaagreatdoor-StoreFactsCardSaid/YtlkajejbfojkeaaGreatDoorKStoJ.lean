/- StoJ -/
import Derived.Test.YtlkajejbfojkeaaGreatDoorKStoUToFacI
set_option linter.unusedSimpArgs false
set_option linter.unusedVariables false
set_option maxRecDepth 100000
set_option maxHeartbeats 16000000
namespace Go.Proofs.YtlkajejbfojkeaaGreatDoor
open Go.RowKit
theorem enrolled1_of (p:Nat) (f:SFact) (r:SReg) (w:World) (hp:Blk w p (factC f)):Calls Tryz.prog 255 #[.agg #[r.n,r.p,r.seat.p,r.seat.d,r.seat.s,r.seat.h],.pointer (some ⟨p,0,none⟩)] w (Makes (.bool (decide (r.n=f.nd∧r.p=f.pt))) w):=by
 have c4:w.cell? ⟨p,4,none⟩=some (.int .i64 f.nd):=hp.cell 4;have c5:w.cell? ⟨p,5,none⟩=some (.int .i64 f.pt):=hp.cell 5;have hlt:=hp.lt;clear hp;obtain⟨rn,rp,sp,sd,ss,sh⟩:=r;dsimp only;generalize f.nd=nd at*;generalize f.pt=pt at*;by_cases h1:rn=nd
 · subst h1;by_cases h2:rp=pt
   · subst h2;rw[decide_eq_true ⟨rfl,rfl⟩];go_enter Tryz.func255,Tryz.ntmps255;go_wp2_with fail;go_ret;exact⟨ret_bool (by simp),by go_grown⟩
   · rw[decide_eq_false (fun x=>h2 x.2)];have t2:(rp==pt)=false:=by simpa using h2
     clear h2;go_enter Tryz.func255,Tryz.ntmps255;go_wp2_with fail;go_ret;exact⟨ret_bool (by simp),by go_grown⟩
 · rw[decide_eq_false (fun x=>h1 x.1)];have t1:(rn==nd)=false:=by simpa using h1
   clear h1;go_enter Tryz.func255,Tryz.ntmps255;go_wp2_with fail;go_ret;exact⟨ret_bool (by simp),by go_grown⟩
theorem indexR_enr (p : Nat) (B : Nat) (l : List SReg) (q : SReg → Bool) (v : Value) (w : World) (hrow : w.ownsRow B 55 6 v l.length (regsL l)) (hl : l.length ≤ 1000)
    (hp:∀(W:World) (r:SReg),Below w.heap.size w W→Calls Tryz.prog 255 #[.agg #[r.n,r.p,r.seat.p,r.seat.d,r.seat.s,r.seat.h],.pointer (some ⟨p,0,none⟩)] W (Makes (.bool (q r)) W)):
    Calls Tryz.prog 239 #[v,.func (.func 255) #[] #[.pointer (some ⟨p,0,none⟩)]] w (Makes (.int .i64 (oix (l.findIdx? q))) w):=by
 obtain⟨a,cap,rfl,_,hr⟩:=reg_row hrow;have HR:=qq hr;have HP:=qq hp;clear hr hp hrow;obtain⟨n,hn⟩:∃n,n=l.length:=⟨_,rfl⟩
 rw[←hn] at hl HR⊢;have HN:=qq hn;clear hn;go_enter Tryz.func239,Tryz.ntmps239;go_wp2_with fail;go_loopw [8] (fun i wr=>∃k:Nat,k≤n∧i=.int .i64 (k:Nat)∧Hid (∀(j:Nat) (h:j<l.length),j<k→q l[j]=false)∧Below w.heap.size w wr) (fun i _=>n - (intOf i).toNat)
 case atStart=>exact⟨0,by omega,by go_num,qq (fun j _ h=>absurd h (by omega)),Below.refl _ _⟩
 case round=>
  obtain⟨k,hk,rfl,HBE,hB⟩:=hrel;by_cases hlt:k<n
  · have hks:k<l.length:=by rw[←HN.out];exact hlt
    obtain⟨g,rfl,hg,hfz,hcell⟩:=HR.out (by omega);obtain⟨r,hrk⟩:∃r,r=l[k]:=⟨_,rfl⟩
    have hat:=(hcell k r (by rw[hrk];exact List.getElem?_eq_getElem hks)).below hB hg;obtain⟨c0,c1,c2,c3,c4,c5⟩:=hat;have hki:(k:Int)<(n:Int):=by omega
    have hk0:(0:Int)≤(k:Int):=by omega
    have hc:=fun W hW=>HP.out W r hW
    obtain⟨t,ht⟩:∃t,t=q r:=⟨_,rfl⟩
    rw[←ht] at hc;rw[hrk] at ht;have HT:=qq ht;have HC:=qq hc;clear ht hc hcell hfz hrk;obtain⟨rn,rp,sp,sd,ss,sh⟩:=r;dsimp only at c0 c1 c2 c3 c4 c5 HC;go_wp2_with fail;refine(HC.out _ (below_then hB (by go_grown))).mono ?_;rintro e w1 ⟨rfl,hb1⟩;have hB1:Below w.heap.size w w1:=below_then hB (below_then (by go_grown) hb1)
    cases t with
    | true=>
     go_wp2_with fail;go_ret;exact⟨by rw[find_hit hks HBE.out HT.out.symm];rfl,hB1⟩
    | false=>
     go_wp2_with fail
     all_goals (go_roundw <;> first | exact ⟨k + 1, by omega, by go_num, qq (fun j h hj => by
         rcases Nat.lt_or_eq_of_le (Nat.le_of_lt_succ hj) with h1 | h1
         · exact HBE.out j h h1
         · subst h1;exact HT.out.symm),hB1⟩ | (simp[intOf];omega))
  · obtain rfl:k=n:=by omega
    go_wp2_with fail;go_ret;exact⟨by rw[find_miss (fun j h=>HBE.out j h (by rw[HN.out];exact h))];rfl,hB⟩
theorem containsR_enr (p : Nat) (B : Nat) (l : List SReg) (q : SReg → Bool) (v : Value) (w : World) (hrow : w.ownsRow B 55 6 v l.length (regsL l)) (hl : l.length ≤ 1000)
    (hp:∀(W:World) (r:SReg),Below w.heap.size w W→Calls Tryz.prog 255 #[.agg #[r.n,r.p,r.seat.p,r.seat.d,r.seat.s,r.seat.h],.pointer (some ⟨p,0,none⟩)] W (Makes (.bool (q r)) W)):
    Calls Tryz.prog 174 #[v,.func (.func 255) #[] #[.pointer (some ⟨p,0,none⟩)]] w (Makes (.bool (l.any q)) w):=by
 have HI:=qq (indexR_enr p B l q v w hrow hl hp);obtain⟨a,cap,rfl,_,_⟩:=reg_row hrow;rw[←find_any];obtain⟨t,ht⟩:∃t,t=oix (l.findIdx? q):=⟨_,rfl⟩
 rw[←ht] at HI⊢;clear ht hp hl hrow;go_enter Tryz.func174,Tryz.ntmps174;go_wp2_with fail;refine HI.out.mono ?_;rintro e w1 ⟨rfl,hb1⟩;go_wp2_with fail;go_ret;exact⟨rfl,hb1⟩
theorem enrolled_end {L : SLoc} {S : Sto} {w W w2 : World} {v2 : Value} {i : Nat} {x : Nat × Value} {a : SAct} {r : SReg} (h : StoreAt L S W) (hb : Below w.heap.size w W) (hx : L.ab[i]? = some x) (ha : S.acts[i]? = some a) (hg : W.grownBy w2 x.2.ownBlock) (ho : w2.ownsRow 0 55 6 v2 (a.regs.length + 1) (regsL a.regs ++ regL r)) (hat : v2.ownBlock = x.2.ownBlock ∨ v2.ownBlock = some W.heap.size) :
    SGoes L {S with acts:=S.acts.set i {a with regs:=a.regs ++ [r]}} w (w2.setCell ⟨x.1,7,none⟩ v2):=by
 obtain⟨b1,b2⟩:=h.act i x a hx ha;have hne:=h.ne_act hx;have hm:Moved L.foot x.2 v2:=hat.imp id (fun e=>⟨_,e,fun hk=>by have:=h.lt _ hk;omega⟩);have hv2:v2.ownBlock≠some x.1:=by
  rcases hat with e | e
  · rw[e];exact hne.2.2.2.1
  · rw[e];intro e';injection e' with e';have:=b1.lt;omega
 have hblk:Blk w2 x.1 (actC a x.2):=b1.same hg.size (hg.block _ b1.lt (fun e=>hne.2.2.2.1 e.symm));have hmem:x.1∈L.foot:=SLoc.mem.2 (.inr (.inr (.inr (mem_blocks.2 ⟨i,x,hx,.inl rfl⟩))));refine⟨⟨L.sb,L.av,L.pv,L.ab.set i (x.1,v2)⟩,rfl,h.act_in hx ha v2 {a with regs:=a.regs ++ [r]} (by simpa using hg.size) (fun k hk hs hlt=> ?_) (hblk.set' 7 (by simp) v2) ?_ hm,?_⟩
 · rw[Below.heap_setCell _ _ _ _ hk];exact hg.block k hlt (fun e=>hs e.symm)
 · show(w2.setCell ⟨x.1,7,none⟩ v2).ownsRow 0 _ 6 v2 (a.regs ++ [r]).length (regsL (a.regs ++ [r]))
   rw[List.length_append];refine row_heap ?_ (fun k hk=>Below.heap_setCell _ _ _ _ (fun e=>hv2 (by rw[hk,e])));unfold regsL at ho⊢;rw[List.flatMap_append];simpa using ho
 · refine((Goes.of_below hb).trans ((Goes.grown hg (fun k hk=>SLoc.mem.2 (.inr (.inr (.inr (mem_blocks.2 ⟨i,x,hx,.inr hk⟩)))))).trans (Goes.setCell x.1 7 v2 hmem))).change (fun k hk=> ?_);rcases mem_rv (n:=W.heap.size) hx (hat.imp id (fun e=>⟨_,e,Nat.le_refl _⟩)) k hk with h1 | h1
   · exact .inl h1
   · exact .inr (Nat.le_trans hb.size h1)
theorem enrolled_yes (L : SLoc) (S : Sto) (f : SFact) (i : Nat) (x : Nat × Value) (a : SAct) (w : World) (h : StoreAt L S w) (hl : a.regs.length ≤ 6) (hx : L.ab[i]? = some x) (ha : S.acts[i]? = some a) (hpr : 1 ≤ f.pr ∧ f.pr ≤ 2) (hrg : f.rg = (a.regs.length : Int)) (hde : a.de = 0) (hno : (a.regs.any fun r => decide (r.n = f.nd ∧ r.p = f.pt)) = false) :
    Calls Tryz.prog 193 #[.pointer (some ⟨x.1,0,none⟩),factV f] w fun e w'=>e=.returned (.bool true)∧SGoes L {S with acts:=S.acts.set i {a with regs:=a.regs ++ [⟨f.nd,f.pt,⟨f.pr,1,1,0⟩⟩]}} w w':=by
 have HN:=qq (fun W=>seatNew_of f.pr 1 W hpr (.inl rfl));have H:=qq h;obtain⟨b1,b2⟩:=h.act i x a hx ha;have hsb:=b1.lt;obtain⟨av,cap,hv⟩:=row_slice b2;obtain⟨n,hnn⟩:∃n,n=a.regs.length:=⟨_,rfl⟩
 have HC:=qq (fun W (hW:StoreAt L S W) (hp:Blk W w.heap.size (factC f))=>(by
   have:=containsR_enr w.heap.size 0 a.regs (fun r=>decide (r.n=f.nd∧r.p=f.pt)) x.2 W (hW.act i x a hx ha).2 (by omega) (fun W' r hb=>enrolled1_of w.heap.size f r W' (hp.below hb));rw[hno] at this;exact this:Calls Tryz.prog 174 #[x.2,.func (.func 255) #[] #[.pointer (some ⟨w.heap.size,0,none⟩)]] W (Makes (.bool false) W)))
 have HE:=qq (fun W w2 v2 (r:SReg) (h1:StoreAt L S W) (h2:Below w.heap.size w W) (h3:W.grownBy w2 x.2.ownBlock) (h4:w2.ownsRow 0 55 6 v2 (n+1) (regsL a.regs ++regL r)) h5=>enrolled_end h1 h2 hx ha h3 (by rw[←hnn];exact h4) h5);have HO:=qq (fun W (hW:StoreAt L S W)=>(show W.ownsRow 0 55 6 x.2 n (regsL a.regs) by rw[hnn];exact(hW.act i x a hx ha).2));rw[←hnn] at hv hrg hl
 have HB:=qq (fun W (hW:StoreAt L S W)=>(show Blk W x.1 (actC a (.slice av n cap)) by rw[←hv];exact(hW.act i x a hx ha).1));have HX:=qq (h.ne_act hx);have HV:=qq hv;rw[hv] at HC;obtain⟨i0,ei,ez,es,eb⟩:=info_parts infoReg;obtain⟨k,an,aq,rg,nd,pt,pr,oc,dp,pa,st,hw,de,ex⟩:=f;obtain⟨xb,xv⟩:=x;obtain⟨aan,aaq,aoc,adp,aex,apa,ade,regs⟩:=a;dsimp only at*;subst hrg hde;dsimp only[factV,factC] at*
 clear hno hnn hv hpr h b1 b2 ha hx;go_enter Tryz.func193,Tryz.ntmps193;go_wp2_with fail
 (with_reducible refine(HN.out _).mono ?_)
 rintro e w1 ⟨rfl,hb1⟩;have HK1:=qq ((Blk.fresh w #[k,an,aq,(n:Int),nd,pt,pr,oc,dp,pa,st,hw,de,.float .f64 ex] 39 _ rfl).below hb1);have B1:Below w.heap.size w w1:=below_then (by go_grown) hb1;have H1:=qq (H.out.below B1);have hz1:=hb1.size;simp only[World.size_alloc] at hz1;have hs1:xb<w1.heap.size:=by omega
 have hs2:w.heap.size<w1.heap.size:=by omega
 obtain⟨q,qf⟩:=HK1.out.out;obtain⟨c,cf⟩:=(HB.out _ H1.out).out;go_wp2_with fail;have hne:((n:Int) !=(n:Int))=false:=by simp
 go_region_held3 (fun w'=>w'.cell? ⟨w.heap.size,3,none⟩=some (.int .i64 (n:Int))∧w'.cell? ⟨xb,7,none⟩=some (.slice av n cap)∧w'.cell? ⟨xb,6,none⟩=some (.int .i64 0))
  (first | exact⟨q 3,c 7,c 6⟩ | go_keep | ((repeat' apply And.intro)<;>go_keep)) (first
  | (go_at_call 174;refine(HC.out _ (H1.out.below (by go_grown)) (HK1.out.below (by go_grown))).mono ?_;rintro e w2 ⟨rfl,hb2⟩;have B2:Below w.heap.size w w2:=below_then (below_then B1 (by go_grown)) hb2;have H2:=qq ((H1.out.below (by go_grown)).below hb2);have HK2:=qq ((HK1.out.below (by go_grown)).below hb2);have HS2:=qq ((Blk.fresh w1 #[pr,.int .i64 1,.int .i64 1,.int .i64 0] 53 _ rfl).below (by go_grown) |>.below hb2);clear q qf c cf;obtain⟨q,qf⟩:=HK2.out.out;obtain⟨c,cf⟩:=(HB.out _ H2.out).out))
 have hz2:=HS2.out.lt;have hs3:xb<w2.heap.size:=by omega
 have hs4:w.heap.size<w2.heap.size:=by omega
 have hs5:xb<w2.heap.size+1:=by omega
 have hs6:w.heap.size<w2.heap.size+1:=by omega
 have hs7:w1.heap.size<w2.heap.size+1:=by omega
 obtain⟨sq,sf⟩:=HS2.out.out;go_wp2_with fail
 go_region_law (refine step_app rfl (.tmp 46) (.tmp 53) 49 rfl 0 55 i0 (.agg #[.int .i64 0,.int .i64 0,.int .i64 0,.int .i64 0,.int .i64 0,.int .i64 0]) 6 48 Tryz.underlying49 ei ez es eb rfl (by decide) (.slice av n cap) n (regsL regs) (by rfl) (by rw[←HV.out];exact HO.out _ (H2.out.below (by go_grown))) ⟨w2.heap.size,0,none⟩ 1 1 (regL ⟨nd,pt,⟨pr,1,1,0⟩⟩) (by rfl) rfl (lit_cells (by first | exact(Blk.fresh _ _ _ _ (by simp)).drew | exact(Blk.fresh _ _ _ _ (by simp)).drew.drew | exact Blk.fresh _ _ _ _ (by simp))) (regL_one _) (by unfold maxLen;omega) (by omega) (Nat.zero_le _) ?_;intro v2 w3 hown3 hgrow3 hat3;rw[←HV.out] at hgrow3 hat3;have HS3:=qq ((HB.out _ (H2.out.below (by go_grown))).same hgrow3.size (hgrow3.block _ (HB.out _ (H2.out.below (by go_grown))).lt (fun e=>HX.out.2.2.2.1 e.symm)));have HR:=qq (HE.out _ w3 v2 ⟨nd,pt,⟨pr,1,1,0⟩⟩ (H2.out.below (by go_grown)) (below_then B2 (by go_grown)) hgrow3 hown3 hat3);obtain⟨a2,cap2,rfl⟩:=row_slice hown3;clear hown3 hgrow3 hat3 q qf c cf sq sf;obtain⟨c3,cf3⟩:=HS3.out.out)
 all_goals go_wp2_with fail
 all_goals go_ret
 all_goals exact⟨rfl,HR.out⟩
end Go.Proofs.YtlkajejbfojkeaaGreatDoor
