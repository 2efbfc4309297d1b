/- StoL, StoD -/
import Derived.Test.YtlkajejbfojkeaaGreatDoorKStoKToStoI
set_option linter.unusedSimpArgs false
set_option linter.unusedVariables false
set_option maxRecDepth 100000
set_option maxHeartbeats 16000000
namespace Go.Proofs.YtlkajejbfojkeaaGreatDoor
open Go.RowKit
theorem acted_2 (L : SLoc) (T : Sto) (f : SFact) (xb : Nat) (b : Bool) (w : World) (hk : f.k = 2) (hE : ∀ W, Below w.heap.size w W → Calls Tryz.prog 193 #[.pointer (some ⟨xb, 0, none⟩), factV f] W fun e w' => e = .returned (.bool b) ∧ SGoes L T W w') :
    Calls Tryz.prog 89 #[.pointer (some ⟨L.sb,0,none⟩),.pointer (some ⟨xb,0,none⟩),factV f] w fun e w'=>e=.returned (.bool b)∧SGoes L T w w':=by
 have HE:=qq hE;obtain⟨k,an,aq,rg,nd,pt,pr,oc,dp,pa,st,hw,de,ex⟩:=f;dsimp only at hk;subst hk;dsimp only[factV,factC] at*;clear hE;go_enter Tryz.func89,Tryz.ntmps89;go_wp2_with fail
 (with_reducible refine(HE.out _ (by go_grown)).mono ?_)
 rintro e w1 ⟨rfl,hs1⟩;have HS:=qq (hs1.after (w:=w) (by go_grown));clear hs1;go_wp2_with fail;go_ret;exact⟨rfl,HS.out⟩
theorem seat_reg_goes {L : SLoc} {S : Sto} {w w2 : World} {i j g cap : Nat} {x : Nat × Value} {a : SAct} {r : SReg} (h : StoreAt L S w) (hb : Below w.heap.size w w2) (hx : L.ab[i]? = some x) (ha : S.acts[i]? = some a) (hv : x.2 = .slice (some ⟨g, 0, none⟩) a.regs.length cap) (hr : a.regs[j]? = some r) (t : MSeat) :
    SGoes L {S with acts:=S.acts.set i {a with regs:=a.regs.set j {r with seat:=t}}} w (putSeat4 w2 g (j*6+2) t):=by
 have h2:=h.below hb;obtain⟨b1,b2⟩:=h2.act i x a hx ha;have hne:=h2.ne_act hx;have hown:x.2.ownBlock=some g:=by rw[hv];rfl
 have hgx:x.1≠g:=fun e=>hne.2.2.2.1 (by rw[hown,e])
 have hmem:g∈L.foot:=SLoc.mem.2 (.inr (.inr (.inr (mem_blocks.2 ⟨i,x,hx,.inr hown⟩))))
 refine⟨⟨L.sb,L.av,L.pv,L.ab.set i (x.1,x.2)⟩,rfl,h2.act_in hx ha x.2 _ (by rw[size_seat];exact Nat.le_refl _) (fun k _ hs _=>heap_seat _ _ _ _ _ (fun e=>hs (by rw[hown,e]))) (b1.same (by rw[size_seat];exact Nat.le_refl _) (heap_seat _ _ _ _ _ hgx)) ?_ (.inl rfl),((Goes.of_below hb).trans (Goes.seat g _ t hmem)).change (fun k hk=> .inl ?_)⟩
 · rw[hv] at b2⊢;rw[List.length_set];exact reg_seat b2 j r hr t
 · rcases mem_rv (n:=w.heap.size) (v':=x.2) hx (.inl rfl) k hk with h1 | h1
   · exact h1
   · rcases SLoc.mem.1 hk with h3 | h3 | h3 | h3
     · exact SLoc.mem.2 (.inl h3)
     · exact SLoc.mem.2 (.inr (.inl h3))
     · exact SLoc.mem.2 (.inr (.inr (.inl h3)))
     · have h4:k∈blocks (L.ab.set i (x.1,x.2)):=h3;rw[blocks_same hx rfl] at h4;exact SLoc.mem.2 (.inr (.inr (.inr h4)))
theorem dec_act_goes {L : SLoc} {S : Sto} {w w2 : World} {i : Nat} {x : Nat × Value} {a : SAct} (h : StoreAt L S w) (hb : Below w.heap.size w w2) (hx : L.ab[i]? = some x) (ha : S.acts[i]? = some a) (d : Int) :
    SGoes L {S with acts:=S.acts.set i {a with de:=d}} w (w2.setCell ⟨x.1,6,none⟩ (.int .i64 d)):=by
 have h2:=h.below hb;obtain⟨b1,b2⟩:=h2.act i x a hx ha;have hne:=h2.ne_act hx;have hmem:x.1∈L.foot:=SLoc.mem.2 (.inr (.inr (.inr (mem_blocks.2 ⟨i,x,hx,.inl rfl⟩))))
 refine⟨⟨L.sb,L.av,L.pv,L.ab.set i (x.1,x.2)⟩,rfl,h2.act_in hx ha x.2 {a with de:=d} (by simp) (fun k hk _ _=>Below.heap_setCell _ _ _ _ hk) (b1.set' 6 (by simp) _) (row_heap b2 (fun k hk=>Below.heap_setCell _ _ _ _ (fun e=>hne.2.2.2.1 (by rw[hk,e])))) (.inl rfl),((Goes.of_below hb).trans (Goes.setCell x.1 6 _ hmem)).change (fun k hk=> .inl ?_)⟩;rcases SLoc.mem.1 hk with h3 | h3 | h3 | h3
 · exact SLoc.mem.2 (.inl h3)
 · exact SLoc.mem.2 (.inr (.inl h3))
 · exact SLoc.mem.2 (.inr (.inr (.inl h3)))
 · have h4:k∈blocks (L.ab.set i (x.1,x.2)):=h3;rw[blocks_same hx rfl] at h4;exact SLoc.mem.2 (.inr (.inr (.inr h4)))
theorem del_goes {L : SLoc} {S : Sto} {w W w2 : World} {i g cap : Nat} (h : StoreAt L S W) (hb : Below w.heap.size w W) (hi : i < S.acts.length) (hv : L.av = .slice (some ⟨g, 0, none⟩) S.acts.length cap) (ho : w2.ownsRow 0 159 1 (.slice (some ⟨g, 0, none⟩) (S.acts.length - 1) cap) (S.acts.length - 1) (ptrs (L.ab.eraseIdx i))) (hg : W.grownBy w2 (some g)) :
    SGoes L {S with acts:=S.acts.take i ++S.acts.drop (i+1)} w (w2.setCell ⟨L.sb,2,none⟩ (.slice (some ⟨g,0,none⟩) (S.acts.length - 1) cap)):=by
 have hn:=h.ne_top;have hown:L.av.ownBlock=some g:=by rw[hv];rfl
 have hgs:g≠L.sb:=fun e=>hn.1 (by rw[hown,e])
 have hblk:Blk w2 L.sb #[S.node,S.next,L.av,L.pv]:=h.blk.same hg.size (hg.block _ h.blk.lt (fun e=>hgs (by injection e with e;exact e.symm)));rw[←List.eraseIdx_eq_take_drop_succ]
 refine⟨⟨L.sb,.slice (some ⟨g,0,none⟩) (S.acts.length - 1) cap,L.pv,L.ab.eraseIdx i⟩,rfl,h.acts_del _ hi (by simpa using hg.size) (fun k hk hs hlt=> ?_) (hblk.set' 2 (by simp) _) (row_heap ho (fun k hk=>Below.heap_setCell _ _ _ _ (fun e=>hgs (by simp[Value.ownBlock] at hk;rw[hk];exact e)))) (by rw[hown];rfl),?_⟩
 · rw[Below.heap_setCell _ _ _ _ hs];exact hg.block k hlt (fun e=>hk (by rw[hown];exact e.symm))
 · refine((Goes.of_below hb).trans ((Goes.grown hg (fun k hk=>SLoc.mem.2 (.inr (.inl (by rw[hown];exact hk))))).trans (Goes.setCell L.sb 2 _ (SLoc.mem.2 (.inl rfl))))).change (fun k hk=> .inl ?_);exact mem_del i (by rw[hown];rfl) k hk
theorem blk_seat {w:World} {b g:Nat} {C:Array Value} (h:Blk w b C) (hb:g<b) (o:Nat) (t:MSeat):Blk (putSeat4 w g o t) b C:=h.same (by rw[size_seat];exact Nat.le_refl _) (heap_seat _ _ _ _ _ (by omega))
theorem acted1_of (r:SReg) (w:World):Calls Tryz.prog 194 #[.agg #[r.n,r.p,r.seat.p,r.seat.d,r.seat.s,r.seat.h]] w (Makes (.bool (decide (r.seat.s≠14))) w):=by
 have e:(r.seat.s !=14)=decide (r.seat.s≠14):=by by_cases h:r.seat.s=14<;>simp[h]
 generalize decide (r.seat.s≠14)=t at*;obtain⟨rn,rp,sp,sd,ss,sh⟩:=r;dsimp only at*;go_enter Tryz.func194,Tryz.ntmps194;go_wp2_with fail;go_ret;exact⟨ret_bool (by first | rfl | exact e),by go_grown⟩
theorem indexR_open  (B : Nat) (l : List SReg) (q : SReg → Bool) (v : Value) (w : World) (hrow : w.ownsRow B 55 6 v l.length (regsL l)) (hl : l.length ≤ 1000)
    (hp:∀(W:World) (r:SReg),Below w.heap.size w W→Calls Tryz.prog 194 #[.agg #[r.n,r.p,r.seat.p,r.seat.d,r.seat.s,r.seat.h]] W (Makes (.bool (q r)) W)):
    Calls Tryz.prog 239 #[v,.func (.func 194) #[] #[]] w (Makes (.int .i64 (oix (l.findIdx? q))) w):=by
 obtain⟨a,cap,rfl,_,hr⟩:=reg_row hrow;have HR:=qq hr;have HP:=qq hp;clear hr hp hrow;obtain⟨n,hn⟩:∃n,n=l.length:=⟨_,rfl⟩
 rw[←hn] at hl HR⊢;have HN:=qq hn;clear hn;go_enter Tryz.func239,Tryz.ntmps239;go_wp2_with fail;go_loopw [8] (fun i wr=>∃k:Nat,k≤n∧i=.int .i64 (k:Nat)∧Hid (∀(j:Nat) (h:j<l.length),j<k→q l[j]=false)∧Below w.heap.size w wr) (fun i _=>n - (intOf i).toNat)
 case atStart=>exact⟨0,by omega,by go_num,qq (fun j _ h=>absurd h (by omega)),Below.refl _ _⟩
 case round=>
  obtain⟨k,hk,rfl,HBE,hB⟩:=hrel;by_cases hlt:k<n
  · have hks:k<l.length:=by rw[←HN.out];exact hlt
    obtain⟨g,rfl,hg,hfz,hcell⟩:=HR.out (by omega);obtain⟨r,hrk⟩:∃r,r=l[k]:=⟨_,rfl⟩
    have hat:=(hcell k r (by rw[hrk];exact List.getElem?_eq_getElem hks)).below hB hg;obtain⟨c0,c1,c2,c3,c4,c5⟩:=hat;have hki:(k:Int)<(n:Int):=by omega
    have hk0:(0:Int)≤(k:Int):=by omega
    have hc:=fun W hW=>HP.out W r hW
    obtain⟨t,ht⟩:∃t,t=q r:=⟨_,rfl⟩
    rw[←ht] at hc;rw[hrk] at ht;have HT:=qq ht;have HC:=qq hc;clear ht hc hcell hfz hrk;obtain⟨rn,rp,sp,sd,ss,sh⟩:=r;dsimp only at c0 c1 c2 c3 c4 c5 HC;go_wp2_with fail;refine(HC.out _ (below_then hB (by go_grown))).mono ?_;rintro e w1 ⟨rfl,hb1⟩;have hB1:Below w.heap.size w w1:=below_then hB (below_then (by go_grown) hb1)
    cases t with
    | true=>
     go_wp2_with fail;go_ret;exact⟨by rw[find_hit hks HBE.out HT.out.symm];rfl,hB1⟩
    | false=>
     go_wp2_with fail
     all_goals (go_roundw <;> first | exact ⟨k + 1, by omega, by go_num, qq (fun j h hj => by
         rcases Nat.lt_or_eq_of_le (Nat.le_of_lt_succ hj) with h1 | h1
         · exact HBE.out j h h1
         · subst h1;exact HT.out.symm),hB1⟩ | (simp[intOf];omega))
  · obtain rfl:k=n:=by omega
    go_wp2_with fail;go_ret;exact⟨by rw[find_miss (fun j h=>HBE.out j h (by rw[HN.out];exact h))];rfl,hB⟩
theorem containsR_open  (B : Nat) (l : List SReg) (q : SReg → Bool) (v : Value) (w : World) (hrow : w.ownsRow B 55 6 v l.length (regsL l)) (hl : l.length ≤ 1000)
    (hp:∀(W:World) (r:SReg),Below w.heap.size w W→Calls Tryz.prog 194 #[.agg #[r.n,r.p,r.seat.p,r.seat.d,r.seat.s,r.seat.h]] W (Makes (.bool (q r)) W)):
    Calls Tryz.prog 174 #[v,.func (.func 194) #[] #[]] w (Makes (.bool (l.any q)) w):=by
 have HI:=qq (indexR_open B l q v w hrow hl hp);obtain⟨a,cap,rfl,_,_⟩:=reg_row hrow;rw[←find_any];obtain⟨t,ht⟩:∃t,t=oix (l.findIdx? q):=⟨_,rfl⟩
 rw[←ht] at HI⊢;clear ht hp hl hrow;go_enter Tryz.func174,Tryz.ntmps174;go_wp2_with fail;refine HI.out.mono ?_;rintro e w1 ⟨rfl,hb1⟩;go_wp2_with fail;go_ret;exact⟨rfl,hb1⟩
theorem acted_3y (L : SLoc) (S : Sto) (f : SFact) (i j : Nat) (x : Nat × Value) (a : SAct) (r : SReg) (t : MSeat) (ea : Int → Addr) (w : World) (hE : Err3 ea w) (h : StoreAt L S w) (hx : L.ab[i]? = some x) (ha : S.acts[i]? = some a) (hl : a.regs.length ≤ 6) (hk : f.k = 3) (hj : f.rg = (j : Int)) (hr : a.regs[j]? = some r) (ht : sturn r.seat f.st f.hw = some t) :
    Calls Tryz.prog 89 #[.pointer (some ⟨L.sb,0,none⟩),.pointer (some ⟨x.1,0,none⟩),factV f] w fun e w'=>e=.returned (.bool true)∧SGoes L {S with acts:=S.acts.set i {a with regs:=a.regs.set j {r with seat:=t}}} w w':=by
 obtain⟨b1,b2⟩:=h.act i x a hx ha;obtain⟨av,cap,hv,hn,hrow⟩:=reg_row b2;have hjl:=(List.getElem?_eq_some_iff.1 hr).1;obtain⟨g,rfl,hg,hfz,hcell⟩:=hrow (by omega);obtain⟨rc0,rc1,rc2,rc3,rc4,rc5⟩:=hcell j r hr;have c7:w.cell? ⟨x.1,7,none⟩=some (.slice (some ⟨g,0,none⟩) a.regs.length cap):=by rw[←hv];exact b1.cell 7
 have HT:=qq (fun W (hB:Below w.heap.size w W)=>turn_yes g (j*6+2) r.seat t f ea W (hE.below hB) (Nat.lt_of_lt_of_le hg hB.size) ht ((hB.cell (p:=⟨g,j*6+2,none⟩) hg).trans rc2) ((hB.cell (p:=⟨g,j*6+3,none⟩) hg).trans rc3) ((hB.cell (p:=⟨g,j*6+4,none⟩) hg).trans rc4) ((hB.cell (p:=⟨g,j*6+5,none⟩) hg).trans rc5) (fun q=>(hB.frozen (p:=⟨g,q,none⟩) hg).trans (hfz q)))
 have HG:=qq (fun w2 (hb:Below w.heap.size w w2)=>seat_reg_goes h hb hx ha hv hr t);have hne:=h.ne_act hx;have hgx:x.1≠g:=fun e=>hne.2.2.2.1 (by rw[hv,e];rfl)
 obtain⟨n,hnn⟩:∃n,n=a.regs.length:=⟨_,rfl⟩
 rw[←hnn] at c7 hjl;have HX7:=qq (fun w2 (hb:Below w.heap.size w w2)=>(show(putSeat4 w2 g (j*6+2) t).cell? ⟨x.1,7,none⟩=some (.slice (some ⟨g,0,none⟩) n cap) from(World.cell?_of_block (a:=⟨x.1,7,none⟩) (heap_seat w2 g (j*6+2) t x.1 hgx)).trans ((hb.cell (p:=⟨x.1,7,none⟩) b1.lt).trans c7)));clear hne hgx;have hxl:=b1.lt;have hi0:(0:Int)≤(j:Int):=by omega
 have hi1:(j:Int)<(n:Int):=by omega
 obtain⟨k,an,aq,rg,nd,pt,pr,oc,dp,pa,st,hw,de,ex⟩:=f;dsimp only at hk hj;subst hk hj;obtain⟨xb,xv⟩:=x;dsimp only[factV,factC] at*;have d1:decide ((j:Int)<(n:Int))=true:=decide_eq_true hi1;clear hn hrow hcell hnn hv hr ht rc0 rc1 rc2 rc3 rc4 rc5 hfz h hE b1 b2 hx ha hl;go_enter Tryz.func89,Tryz.ntmps89;go_wp2_with fail
 have q0:=fun(i:Nat)=>((Blk.fresh w #[.pointer (some ⟨xb,0,none⟩)] 159 _ rfl).alloc (.cells #[.int .i64 3,an,aq,(j:Int),nd,pt,pr,oc,dp,pa,st,hw,de,.float .f64 ex] 39)).drew.cell i
 have q1:=fun(i:Nat)=>(Blk.fresh (w.alloc (.cells #[.pointer (some ⟨xb,0,none⟩)] 159)) #[.int .i64 3,.int .i64 an,.int .i64 aq,.int .i64 (j:Int),.int .i64 nd,.int .i64 pt,.int .i64 pr,.int .i64 oc,.int .i64 dp,.int .i64 pa,.int .i64 st,.int .i64 hw,.int .i64 de,.float .f64 ex] 39 (w.heap.size+1) (by simp)).drew.cell i
 have q2:(World.drew ((w.alloc (.cells #[.pointer (some ⟨xb,0,none⟩)] 159)).alloc (.cells #[.int .i64 3,an,aq,(j:Int),nd,pt,pr,oc,dp,pa,st,hw,de,.float .f64 ex] 39))).cell? ⟨xb,7,none⟩=some (.slice (some ⟨g,0,none⟩) n cap):=((by go_grown:Below w.heap.size w (World.drew ((w.alloc (.cells #[.pointer (some ⟨xb,0,none⟩)] 159)).alloc (.cells #[.int .i64 3,an,aq,(j:Int),nd,pt,pr,oc,dp,pa,st,hw,de,.float .f64 ex] 39)))).cell (p:=⟨xb,7,none⟩) hxl).trans c7
 go_region_held3 (fun w'=>w'.cell? ⟨w.heap.size,0,none⟩=some (.pointer (some ⟨xb,0,none⟩))∧(∀i,w'.cell? ⟨w.heap.size+1,i,none⟩= #[.int .i64 3,.int .i64 an,.int .i64 aq,.int .i64 (j:Int),.int .i64 nd,.int .i64 pt,.int .i64 pr,.int .i64 oc,.int .i64 dp,.int .i64 pa,.int .i64 st,.int .i64 hw,.int .i64 de,.float .f64 ex][i]?)∧w'.cell? ⟨xb,7,none⟩=some (.slice (some ⟨g,0,none⟩) n cap))
  (first | exact⟨q0 0,q1,q2⟩ | go_keep | ((repeat' apply And.intro)<;>go_keep)) (first
  | (go_at_call 190;refine(HT.out _ (by go_grown)).mono ?_;rintro e w1 ⟨rfl,w2,hb2,rfl⟩;have B2:Below w.heap.size w w2:=below_then (by go_grown) hb2;clear q0 q1 q2;have q0:=(blk_seat (((Blk.fresh w #[.pointer (some ⟨xb,0,none⟩)] 159 _ rfl).alloc (.cells #[.int .i64 3,an,aq,(j:Int),nd,pt,pr,oc,dp,pa,st,hw,de,.float .f64 ex] 39)).drew.below hb2) (g:=g) (by omega) (j*6+2) t).cell;have q1:=(blk_seat ((Blk.fresh (w.alloc (.cells #[.pointer (some ⟨xb,0,none⟩)] 159)) #[.int .i64 3,.int .i64 an,.int .i64 aq,.int .i64 (j:Int),.int .i64 nd,.int .i64 pt,.int .i64 pr,.int .i64 oc,.int .i64 dp,.int .i64 pa,.int .i64 st,.int .i64 hw,.int .i64 de,.float .f64 ex] 39 (w.heap.size+1) (by simp)).drew.below hb2) (g:=g) (by omega) (j*6+2) t).cell;have q2:=HX7.out _ B2))
 all_goals go_wp2_with fail
 all_goals go_ret
 all_goals exact⟨rfl,HG.out _ B2⟩
theorem acted_3n (L : SLoc) (S : Sto) (f : SFact) (i j : Nat) (x : Nat × Value) (a : SAct) (r : SReg) (ea : Int → Addr) (w : World) (hE : Err3 ea w) (h : StoreAt L S w) (hx : L.ab[i]? = some x) (ha : S.acts[i]? = some a) (hl : a.regs.length ≤ 6) (hk : f.k = 3) (hj : f.rg = (j : Int)) (hr : a.regs[j]? = some r) (ht : sturn r.seat f.st f.hw = none) :
    Calls Tryz.prog 89 #[.pointer (some ⟨L.sb,0,none⟩),.pointer (some ⟨x.1,0,none⟩),factV f] w fun e w'=>e=.returned (.bool false)∧SGoes L S w w':=by
 obtain⟨b1,b2⟩:=h.act i x a hx ha;obtain⟨av,cap,hv,hn,hrow⟩:=reg_row b2;have hjl:=(List.getElem?_eq_some_iff.1 hr).1;obtain⟨g,rfl,hg,hfz,hcell⟩:=hrow (by omega);obtain⟨rc0,rc1,rc2,rc3,rc4,rc5⟩:=hcell j r hr;have c7:w.cell? ⟨x.1,7,none⟩=some (.slice (some ⟨g,0,none⟩) a.regs.length cap):=by rw[←hv];exact b1.cell 7
 have HT:=qq (fun W (hB:Below w.heap.size w W)=>turn_no g (j*6+2) r.seat f ea W (hE.below hB) (Nat.lt_of_lt_of_le hg hB.size) ht ((hB.cell (p:=⟨g,j*6+2,none⟩) hg).trans rc2) ((hB.cell (p:=⟨g,j*6+3,none⟩) hg).trans rc3) ((hB.cell (p:=⟨g,j*6+4,none⟩) hg).trans rc4));have HG:=qq (fun w2 (hb:Below w.heap.size w w2)=>SGoes.same h hb);obtain⟨n,hnn⟩:∃n,n=a.regs.length:=⟨_,rfl⟩
 rw[←hnn] at c7 hjl;have hxl:=b1.lt;have hi0:(0:Int)≤(j:Int):=by omega
 have hi1:(j:Int)<(n:Int):=by omega
 obtain⟨k,an,aq,rg,nd,pt,pr,oc,dp,pa,st,hw,de,ex⟩:=f;dsimp only at hk hj;subst hk hj;obtain⟨xb,xv⟩:=x;dsimp only[factV,factC] at*;have d1:decide ((j:Int)<(n:Int))=true:=decide_eq_true hi1;clear hn hrow hcell hnn hv hr ht rc0 rc1 rc2 rc3 rc4 rc5 hfz h hE b1 b2 hx ha hl;go_enter Tryz.func89,Tryz.ntmps89;go_wp2_with fail
 have q0:=fun(i:Nat)=>((Blk.fresh w #[.pointer (some ⟨xb,0,none⟩)] 159 _ rfl).alloc (.cells #[.int .i64 3,an,aq,(j:Int),nd,pt,pr,oc,dp,pa,st,hw,de,.float .f64 ex] 39)).drew.cell i
 have q1:=fun(i:Nat)=>(Blk.fresh (w.alloc (.cells #[.pointer (some ⟨xb,0,none⟩)] 159)) #[.int .i64 3,.int .i64 an,.int .i64 aq,.int .i64 (j:Int),.int .i64 nd,.int .i64 pt,.int .i64 pr,.int .i64 oc,.int .i64 dp,.int .i64 pa,.int .i64 st,.int .i64 hw,.int .i64 de,.float .f64 ex] 39 (w.heap.size+1) (by simp)).drew.cell i
 have q2:(World.drew ((w.alloc (.cells #[.pointer (some ⟨xb,0,none⟩)] 159)).alloc (.cells #[.int .i64 3,an,aq,(j:Int),nd,pt,pr,oc,dp,pa,st,hw,de,.float .f64 ex] 39))).cell? ⟨xb,7,none⟩=some (.slice (some ⟨g,0,none⟩) n cap):=((by go_grown:Below w.heap.size w (World.drew ((w.alloc (.cells #[.pointer (some ⟨xb,0,none⟩)] 159)).alloc (.cells #[.int .i64 3,an,aq,(j:Int),nd,pt,pr,oc,dp,pa,st,hw,de,.float .f64 ex] 39)))).cell (p:=⟨xb,7,none⟩) hxl).trans c7
 go_region_held3 (fun w'=>w'.cell? ⟨w.heap.size,0,none⟩=some (.pointer (some ⟨xb,0,none⟩))∧(∀i,w'.cell? ⟨w.heap.size+1,i,none⟩= #[.int .i64 3,.int .i64 an,.int .i64 aq,.int .i64 (j:Int),.int .i64 nd,.int .i64 pt,.int .i64 pr,.int .i64 oc,.int .i64 dp,.int .i64 pa,.int .i64 st,.int .i64 hw,.int .i64 de,.float .f64 ex][i]?)∧w'.cell? ⟨xb,7,none⟩=some (.slice (some ⟨g,0,none⟩) n cap))
  (first | exact⟨q0 0,q1,q2⟩ | go_keep | ((repeat' apply And.intro)<;>go_keep)) (first
  | (go_at_call 190;refine(HT.out _ (by go_grown)).mono ?_;rintro e w2 ⟨rfl,hb2⟩;have B2:Below w.heap.size w w2:=below_then (by go_grown) hb2;clear q0 q1 q2;have q0:=(((Blk.fresh w #[.pointer (some ⟨xb,0,none⟩)] 159 _ rfl).alloc (.cells #[.int .i64 3,an,aq,(j:Int),nd,pt,pr,oc,dp,pa,st,hw,de,.float .f64 ex] 39)).drew.below hb2).cell;have q1:=((Blk.fresh (w.alloc (.cells #[.pointer (some ⟨xb,0,none⟩)] 159)) #[.int .i64 3,.int .i64 an,.int .i64 aq,.int .i64 (j:Int),.int .i64 nd,.int .i64 pt,.int .i64 pr,.int .i64 oc,.int .i64 dp,.int .i64 pa,.int .i64 st,.int .i64 hw,.int .i64 de,.float .f64 ex] 39 (w.heap.size+1) (by simp)).drew.below hb2).cell;have q2:=(B2.cell (p:=⟨xb,7,none⟩) hxl).trans c7))
 all_goals go_wp2_with fail
 all_goals go_ret
 all_goals exact⟨rfl,HG.out _ B2⟩
theorem acted_3o (L : SLoc) (S : Sto) (f : SFact) (i : Nat) (x : Nat × Value) (a : SAct) (w : World) (h : StoreAt L S w) (hx : L.ab[i]? = some x) (ha : S.acts[i]? = some a) (hl : a.regs.length ≤ 6) (hk : f.k = 3) (hj : (a.regs.length : Int) ≤ f.rg) :
    Calls Tryz.prog 89 #[.pointer (some ⟨L.sb,0,none⟩),.pointer (some ⟨x.1,0,none⟩),factV f] w fun e w'=>e=.returned (.bool false)∧SGoes L S w w':=by
 obtain⟨b1,b2⟩:=h.act i x a hx ha;obtain⟨av,cap,hv,hn,hrow⟩:=reg_row b2;have c7:w.cell? ⟨x.1,7,none⟩=some (.slice av a.regs.length cap):=by rw[←hv];exact b1.cell 7
 have HG:=qq (fun w2 (hb:Below w.heap.size w w2)=>SGoes.same h hb);obtain⟨n,hnn⟩:∃n,n=a.regs.length:=⟨_,rfl⟩
 rw[←hnn] at c7 hj;have hxl:=b1.lt;obtain⟨k,an,aq,rg,nd,pt,pr,oc,dp,pa,st,hw,de,ex⟩:=f;dsimp only at hk hj;subst hk;obtain⟨xb,xv⟩:=x;dsimp only[factV,factC] at*;have d0:¬rg<(n:Int):=by omega
 have d1:decide (rg<(n:Int))=false:=decide_eq_false d0;clear hn hrow hnn hv hj h b1 b2 hx ha hl;go_enter Tryz.func89,Tryz.ntmps89;go_wp2_with fail;go_quiet (fail)
 all_goals go_wp2_with fail
 all_goals go_ret
 all_goals exact⟨rfl,HG.out _ ((((Below.refl _ _).alloc (Nat.le_refl _) _).alloc (by simp) _).trans ⟨rfl,rfl,rfl,Nat.le_refl _,fun _ _=>rfl⟩)⟩
theorem acted_4y (L : SLoc) (S : Sto) (f : SFact) (i : Nat) (x : Nat × Value) (a : SAct) (w : World) (h : StoreAt L S w) (hx : L.ab[i]? = some x) (ha : S.acts[i]? = some a) (hk : f.k = 4) (h1 : a.oc = 1) (h2 : a.de = 0) :
    Calls Tryz.prog 89 #[.pointer (some ⟨L.sb,0,none⟩),.pointer (some ⟨x.1,0,none⟩),factV f] w fun e w'=>e=.returned (.bool true)∧SGoes L {S with acts:=S.acts.set i {a with de:=f.de}} w w':=by
 obtain⟨b1,b2⟩:=h.act i x a hx ha;have c2:w.cell? ⟨x.1,2,none⟩=some (.int .i64 1):=by rw[←h1];exact b1.cell 2
 have c6:w.cell? ⟨x.1,6,none⟩=some (.int .i64 0):=by rw[←h2];exact b1.cell 6
 have cf:=b1.free;have HG:=qq (dec_act_goes h (Below.refl _ _) hx ha f.de);have hxl:=b1.lt;obtain⟨k,an,aq,rg,nd,pt,pr,oc,dp,pa,st,hw,de,ex⟩:=f;dsimp only at hk;subst hk;obtain⟨xb,xv⟩:=x;dsimp only[factV,factC] at*;clear h b1 b2 hx ha h1 h2;go_enter Tryz.func89,Tryz.ntmps89;go_wp2_with fail;go_ret;exact⟨rfl,HG.out.then_below (by go_grown)⟩
theorem acted_4n (L : SLoc) (S : Sto) (f : SFact) (i : Nat) (x : Nat × Value) (a : SAct) (w : World) (h : StoreAt L S w) (hx : L.ab[i]? = some x) (ha : S.acts[i]? = some a) (hk : f.k = 4) (h1 : a.oc ≠ 1 ∨ a.de ≠ 0) :
    Calls Tryz.prog 89 #[.pointer (some ⟨L.sb,0,none⟩),.pointer (some ⟨x.1,0,none⟩),factV f] w fun e w'=>e=.returned (.bool false)∧SGoes L S w w':=by
 obtain⟨b1,b2⟩:=h.act i x a hx ha;have c2:w.cell? ⟨x.1,2,none⟩=some (.int .i64 a.oc):=b1.cell 2;have c6:w.cell? ⟨x.1,6,none⟩=some (.int .i64 a.de):=b1.cell 6;have H:=qq h;have hxl:=b1.lt;obtain⟨k,an,aq,rg,nd,pt,pr,oc,dp,pa,st,hw,de,ex⟩:=f;dsimp only at hk;subst hk;obtain⟨xb,xv⟩:=x;obtain⟨aan,aaq,aoc,adp,aex,apa,ade,regs⟩:=a;dsimp only[factV,factC] at*;clear h b1 b2 hx ha;by_cases ho:aoc=1
 · have t1:(aoc !=1)=false:=by simpa using ho
   have t2:(ade !=0)=true:=by simpa using(h1.resolve_left (fun e=>e ho))
   clear h1 ho;go_enter Tryz.func89,Tryz.ntmps89;go_wp2_with fail;go_ret;exact⟨rfl,SGoes.same H.out (by go_grown)⟩
 · have t1:(aoc !=1)=true:=by simpa using ho
   clear h1 ho;go_enter Tryz.func89,Tryz.ntmps89;go_wp2_with fail;go_ret;exact⟨rfl,SGoes.same H.out (by go_grown)⟩
theorem acted_5n (L : SLoc) (S : Sto) (f : SFact) (i : Nat) (x : Nat × Value) (a : SAct) (w : World) (h : StoreAt L S w) (hx : L.ab[i]? = some x) (ha : S.acts[i]? = some a) (hl : a.regs.length ≤ 6) (hk : f.k = 5) (h1 : (a.regs.any fun r => decide (r.seat.s ≠ 14)) = true) :
    Calls Tryz.prog 89 #[.pointer (some ⟨L.sb,0,none⟩),.pointer (some ⟨x.1,0,none⟩),factV f] w fun e w'=>e=.returned (.bool false)∧SGoes L S w w':=by
 obtain⟨b1,b2⟩:=h.act i x a hx ha;have c7:w.cell? ⟨x.1,7,none⟩=some x.2:=b1.cell 7;have H:=qq h;have hxl:=b1.lt;have HC:=qq (fun W (hW:Below w.heap.size w W)=>(by
   have:=containsR_open 0 a.regs (fun r=>decide (r.seat.s≠14)) x.2 W ((h.below hW).act i x a hx ha).2 (by omega) (fun W' r hb=>acted1_of r W');rw[h1] at this;exact this:Calls Tryz.prog 174 #[x.2,.func (.func 194) #[] #[]] W (Makes (.bool true) W)))
 obtain⟨k,an,aq,rg,nd,pt,pr,oc,dp,pa,st,hw,de,ex⟩:=f;dsimp only at hk;subst hk;obtain⟨xb,xv⟩:=x;dsimp only[factV,factC] at*;clear h b1 b2 hx ha h1 hl;go_enter Tryz.func89,Tryz.ntmps89;go_wp2_with fail
 (with_reducible refine(HC.out _ (by go_grown)).mono ?_)
 rintro e w1 ⟨rfl,hb1⟩;have B1:Below w.heap.size w w1:=below_then (by go_grown) hb1;go_wp2_with fail;go_ret;exact⟨rfl,SGoes.same H.out B1⟩
theorem acted_5y (L : SLoc) (S : Sto) (f : SFact) (i : Nat) (x : Nat × Value) (a : SAct) (w : World) (h : StoreAt L S w) (hG : StoGood S) (hx : L.ab[i]? = some x) (ha : S.acts[i]? = some a) (hl : a.regs.length ≤ 6) (hk : f.k = 5) (h1 : (a.regs.any fun r => decide (r.seat.s ≠ 14)) = false) :
    Calls Tryz.prog 89 #[.pointer (some ⟨L.sb,0,none⟩),.pointer (some ⟨x.1,0,none⟩),factV f] w fun e w'=>e=.returned (.bool true)∧SGoes L {S with acts:=S.acts.take i ++S.acts.drop (i+1)} w w':=by
 obtain⟨b1,b2⟩:=h.act i x a hx ha;have c7:w.cell? ⟨x.1,7,none⟩=some x.2:=b1.cell 7;have H:=qq h;have hxl:=b1.lt;have hsb:=h.blk.lt;have hil:=(List.getElem?_eq_some_iff.1 ha).1;obtain⟨av,cap,hv,hab,hr⟩:=ptr_row h.acts;obtain⟨g,rfl,hg,hfz,hcell⟩:=hr (by omega);have HC:=qq (fun W (hW:Below w.heap.size w W)=>(by
   have:=containsR_open 0 a.regs (fun r=>decide (r.seat.s≠14)) x.2 W ((h.below hW).act i x a hx ha).2 (by omega) (fun W' r hb=>acted1_of r W');rw[h1] at this;exact this:Calls Tryz.prog 174 #[x.2,.func (.func 194) #[] #[]] W (Makes (.bool false) W)))
 have hgt:∀(j:Nat) (y:Nat×Value),L.ab[j]? =some y→y.1≠g:=fun j y hy e=>(h.ne_act hy).2.1 (by rw[hv,e];rfl)
 have HD:=qq (fun W (hW:Below w.heap.size w W) (hp:Blk W w.heap.size #[.pointer (some ⟨x.1,0,none⟩)])=>(by
   have hW2:=h.below hW;have hrow:=hW2.acts;rw[hv,←hab] at hrow;have:=deleteP L.ab i g cap w.heap.size x W hrow (by rw[hab];exact hG.acts) hx (fun j y hy hji e=>hW2.ne_two hy hx hji y.1 (.inl rfl) (.inl e)) hp (by omega) (fun j y hy=>⟨hgt j y hy,by
     obtain⟨b,hb⟩:∃b,S.acts[j]? =some b:=⟨_,List.getElem?_eq_getElem (by have:=(List.getElem?_eq_some_iff.1 hy).1;omega)⟩
     exact⟨actC b y.2,by simp,(hW2.act j y b hy hb).1⟩⟩)
   rw[hab] at this;exact this:Calls Tryz.prog 195 #[.slice (some ⟨g,0,none⟩) S.acts.length cap,.func (.func 196) #[] #[.pointer (some ⟨w.heap.size,0,none⟩)]] W fun e w'=>e=.returned (.slice (some ⟨g,0,none⟩) (S.acts.length - 1) cap)∧w'.ownsRow 0 159 1 (.slice (some ⟨g,0,none⟩) (S.acts.length - 1) cap) (S.acts.length - 1) (ptrs (L.ab.eraseIdx i))∧W.grownBy w' (some g)))
 have HE:=qq (fun W w2 (hW:Below w.heap.size w W) ho hg2=>del_goes (W:=W) (w2:=w2) (h.below hW) hW hil hv ho hg2);have hgs:g≠L.sb:=fun e=>h.ne_top.1 (by rw[hv,e];rfl)
 have HQ:=qq (fun W (hW:Below w.heap.size w W)=>(show W.cell? ⟨L.sb,2,none⟩=some (.slice (some ⟨g,0,none⟩) S.acts.length cap) by rw[←hv];exact(h.below hW).blk.cell 2));have HF:=qq (fun W (hW:Below w.heap.size w W)=>(h.below hW).blk);obtain⟨n,hnn⟩:∃n,n=S.acts.length:=⟨_,rfl⟩
 rw[←hnn] at HD HE HQ;obtain⟨k,an,aq,rg,nd,pt,pr,oc,dp,pa,st,hw,de,ex⟩:=f;dsimp only at hk;subst hk;obtain⟨xb,xv⟩:=x;have HB0:=qq (Blk.fresh w #[.pointer (some ⟨xb,0,none⟩)] 159 _ rfl);dsimp only[factV,factC] at*;clear h b1 b2 hx ha h1 hl hil hab hr hcell hfz hnn hv hgt hG;go_enter Tryz.func89,Tryz.ntmps89;go_wp2_with fail
 (with_reducible refine(HC.out _ (by go_grown)).mono ?_)
 rintro e w1 ⟨rfl,hb1⟩;have B1:Below w.heap.size w w1:=below_then (by go_grown) hb1;have HB1:=qq ((HB0.out.below (by go_grown)).below hb1);have c2:=HQ.out _ B1;go_wp2_with fail;refine(HD.out _ B1 HB1.out).mono ?_;rintro e w2 ⟨rfl,ho,hg2⟩;have HR:=qq (HE.out _ w2 B1 ho hg2);have HK:=qq ((HF.out _ B1).same hg2.size (hg2.block _ (HF.out _ B1).lt (fun e=>hgs (by injection e with e;exact e.symm))))
 clear ho hg2 c2;obtain⟨c,cf⟩:=HK.out.out;go_wp2_with fail;go_ret;exact⟨rfl,HR.out⟩
theorem seat_part_goes {L:SLoc} {S:Sto} {w w2:World} {g cap i:Nat} {p:SPart} (h:StoreAt L S w) (hb:Below w.heap.size w w2) (hv:L.pv=.slice (some ⟨g,0,none⟩) S.parts.length cap) (hp:S.parts[i]? =some p) (t:MSeat):SGoes L {S with parts:=S.parts.set i {p with seat:=t}} w (putSeat4 w2 g (i*7+3) t):=by
 have h2:=h.below hb;have hrow:=h2.parts;rw[hv] at hrow;have hown:L.pv.ownBlock=some g:=by rw[hv];rfl
 refine⟨L,rfl,h2.parts_in _ (by rw[size_seat];exact Nat.le_refl _) (fun k hk _=>heap_seat _ _ _ _ _ (fun e=>hk (by rw[hown,e]))) ?_,(Goes.of_below hb).trans (Goes.seat g _ t (SLoc.mem.2 (.inr (.inr (.inl hown)))))⟩;rw[hv,List.length_set];exact part_seat hrow i p hp t
theorem rg_part_goes {L:SLoc} {S:Sto} {w w2:World} {g cap i:Nat} {p:SPart} (h:StoreAt L S w) (hb:Below w.heap.size w w2) (hv:L.pv=.slice (some ⟨g,0,none⟩) S.parts.length cap) (hp:S.parts[i]? =some p) (r:Int):SGoes L {S with parts:=S.parts.set i {p with rg:=r}} w (w2.setCell ⟨g,i*7+2,none⟩ (.int .i64 r)):=by
 have h2:=h.below hb;have hrow:=h2.parts;rw[hv] at hrow;have hown:L.pv.ownBlock=some g:=by rw[hv];rfl
 have hi:=(List.getElem?_eq_some_iff.1 hp).1;have he:=(List.getElem?_eq_some_iff.1 hp).2;refine⟨L,rfl,h2.parts_in _ (by simp) (fun k hk _=>Below.heap_setCell _ _ _ _ (fun e=>hk (by rw[hown,e]))) ?_,(Goes.of_below hb).trans (Goes.setCell g _ _ (SLoc.mem.2 (.inr (.inr (.inl hown)))))⟩;rw[hv,List.length_set];have hr:=row_set hrow (i*7+2) (.int .i64 r) (by omega)
 rw[show(partsL S.parts).set (i*7+2) (.int .i64 r)=partsL (S.parts.set i {p with rg:=r}) from flat_set partL 7 partL_len _ i 2 hi (by decide) _ _ (by rw[he];rfl)] at hr;exact hr
theorem parted8_yes (L : SLoc) (S : Sto) (f : SFact) (i : Nat) (p : SPart) (t : MSeat) (ea : Int → Addr) (w : World) (hE : Err3 ea w) (h : StoreAt L S w) (hk : f.k = 8) (hi : f.pt = (i : Int)) (hp : S.parts[i]? = some p) (ht : sturn p.seat f.st f.hw = some t) :
    Calls Tryz.prog 87 #[.pointer (some ⟨L.sb,0,none⟩),factV f] w fun e w'=>e=.returned (.bool true)∧SGoes L {S with parts:=S.parts.set i {p with seat:=t}} w w':=by
 obtain⟨a,cap,hv,hn,hr⟩:=part_row h.parts;have hil:=(List.getElem?_eq_some_iff.1 hp).1;obtain⟨g,rfl,hg,hfz,hcell⟩:=hr (by omega);obtain⟨pc0,pc1,pc2,pc3,pc4,pc5,pc6⟩:=hcell i p hp;have q3:w.cell? ⟨L.sb,3,none⟩=some (.slice (some ⟨g,0,none⟩) S.parts.length cap):=by rw[←hv];exact h.blk.cell 3
 have HT:=qq (fun W (hB:Below w.heap.size w W)=>turn_yes g (i*7+3) p.seat t f ea W (hE.below hB) (Nat.lt_of_lt_of_le hg hB.size) ht ((hB.cell (p:=⟨g,i*7+3,none⟩) hg).trans pc3) ((hB.cell (p:=⟨g,i*7+4,none⟩) hg).trans pc4) ((hB.cell (p:=⟨g,i*7+5,none⟩) hg).trans pc5) ((hB.cell (p:=⟨g,i*7+6,none⟩) hg).trans pc6) (fun j=>(hB.frozen (p:=⟨g,j,none⟩) hg).trans (hfz j)))
 have HG:=qq (fun w2 (hb:Below w.heap.size w w2)=>seat_part_goes h hb hv hp t);obtain⟨n,hnn⟩:∃n,n=S.parts.length:=⟨_,rfl⟩
 rw[←hnn] at q3 hil;have hsb:=h.blk.lt;have hi0:(0:Int)≤(i:Int):=by omega
 have hi1:(i:Int)<(n:Int):=by omega
 obtain⟨k,an,aq,rg,nd,pt,pr,oc,dp,pa,st,hw,de,ex⟩:=f;dsimp only at hk hi;subst hk hi;dsimp only[factV,factC] at*;clear hn hr hcell hnn hv hp ht pc0 pc1 pc2 pc3 pc4 pc5 pc6 hfz h hE;go_enter Tryz.func87,Tryz.ntmps87;go_wp2_with fail;go_region
 all_goals go_wp2_with fail
 go_region_with (go_at_call 190;refine(HT.out _ (by go_grown)).mono ?_;rintro e w1 ⟨rfl,w2,hb2,rfl⟩;have B2:Below w.heap.size w w2:=below_then (by go_grown) hb2)
 all_goals go_wp2_with fail
 all_goals go_ret
 all_goals exact⟨rfl,HG.out _ B2⟩
theorem parted8_no (L : SLoc) (S : Sto) (f : SFact) (i : Nat) (p : SPart) (ea : Int → Addr) (w : World) (hE : Err3 ea w) (h : StoreAt L S w) (hk : f.k = 8) (hi : f.pt = (i : Int)) (hp : S.parts[i]? = some p) (ht : sturn p.seat f.st f.hw = none) :
    Calls Tryz.prog 87 #[.pointer (some ⟨L.sb,0,none⟩),factV f] w fun e w'=>e=.returned (.bool false)∧SGoes L S w w':=by
 obtain⟨a,cap,hv,hn,hr⟩:=part_row h.parts;have hil:=(List.getElem?_eq_some_iff.1 hp).1;obtain⟨g,rfl,hg,hfz,hcell⟩:=hr (by omega);obtain⟨pc0,pc1,pc2,pc3,pc4,pc5,pc6⟩:=hcell i p hp;have q3:w.cell? ⟨L.sb,3,none⟩=some (.slice (some ⟨g,0,none⟩) S.parts.length cap):=by rw[←hv];exact h.blk.cell 3
 have HT:=qq (fun W (hB:Below w.heap.size w W)=>turn_no g (i*7+3) p.seat f ea W (hE.below hB) (Nat.lt_of_lt_of_le hg hB.size) ht ((hB.cell (p:=⟨g,i*7+3,none⟩) hg).trans pc3) ((hB.cell (p:=⟨g,i*7+4,none⟩) hg).trans pc4) ((hB.cell (p:=⟨g,i*7+5,none⟩) hg).trans pc5));have HG:=qq (fun w2 (hb:Below w.heap.size w w2)=>SGoes.same h hb);obtain⟨n,hnn⟩:∃n,n=S.parts.length:=⟨_,rfl⟩
 rw[←hnn] at q3 hil;have hsb:=h.blk.lt;have hi0:(0:Int)≤(i:Int):=by omega
 have hi1:(i:Int)<(n:Int):=by omega
 obtain⟨k,an,aq,rg,nd,pt,pr,oc,dp,pa,st,hw,de,ex⟩:=f;dsimp only at hk hi;subst hk hi;dsimp only[factV,factC] at*;clear hn hr hcell hnn hv hp ht pc0 pc1 pc2 pc3 pc4 pc5 pc6 hfz h hE;go_enter Tryz.func87,Tryz.ntmps87;go_wp2_with fail;go_region
 all_goals go_wp2_with fail
 go_region_with (go_at_call 190;refine(HT.out _ (by go_grown)).mono ?_;rintro e w2 ⟨rfl,hb2⟩;have B2:Below w.heap.size w w2:=below_then (by go_grown) hb2)
 all_goals go_wp2_with fail
 all_goals go_ret
 all_goals exact⟨rfl,HG.out _ B2⟩
theorem parted7_yes (L : SLoc) (S : Sto) (f : SFact) (i : Nat) (p : SPart) (w : World) (h : StoreAt L S w) (hk : f.k = 7) (hi : f.pt = (i : Int)) (hp : S.parts[i]? = some p) (hr7 : p.rg = -1) :
    Calls Tryz.prog 87 #[.pointer (some ⟨L.sb,0,none⟩),factV f] w fun e w'=>e=.returned (.bool true)∧SGoes L {S with parts:=S.parts.set i {p with rg:=f.rg}} w w':=by
 obtain⟨a,cap,hv,hn,hr⟩:=part_row h.parts;have hil:=(List.getElem?_eq_some_iff.1 hp).1;obtain⟨g,rfl,hg,hfz,hcell⟩:=hr (by omega);obtain⟨pc0,pc1,pc2,pc3,pc4,pc5,pc6⟩:=hcell i p hp;have q3:w.cell? ⟨L.sb,3,none⟩=some (.slice (some ⟨g,0,none⟩) S.parts.length cap):=by rw[←hv];exact h.blk.cell 3
 have HG:=qq (fun w2 (hb:Below w.heap.size w w2)=>rg_part_goes h hb hv hp f.rg);obtain⟨n,hnn⟩:∃n,n=S.parts.length:=⟨_,rfl⟩
 rw[←hnn] at q3 hil;have hsb:=h.blk.lt;rw[hr7] at pc2;clear hr7;have hi0:(0:Int)≤(i:Int):=by omega
 have hi1:(i:Int)<(n:Int):=by omega
 obtain⟨k,an,aq,rg,nd,pt,pr,oc,dp,pa,st,hw,de,ex⟩:=f;dsimp only at hk hi;subst hk hi;dsimp only[factV,factC] at*;clear hn hr hcell hnn hv hp pc0 pc1 pc3 pc4 pc5 pc6 h;go_enter Tryz.func87,Tryz.ntmps87;go_wp2_with fail;go_region
 all_goals go_wp2_with fail
 all_goals go_ret
 all_goals exact⟨rfl,(HG.out w (Below.refl _ _)).then_below (by go_grown)⟩
theorem parted7_no (L : SLoc) (S : Sto) (f : SFact) (i : Nat) (p : SPart) (w : World) (h : StoreAt L S w) (hk : f.k = 7) (hi : f.pt = (i : Int)) (hp : S.parts[i]? = some p) (hr7 : p.rg ≠ -1) :
    Calls Tryz.prog 87 #[.pointer (some ⟨L.sb,0,none⟩),factV f] w fun e w'=>e=.returned (.bool false)∧SGoes L S w w':=by
 obtain⟨a,cap,hv,hn,hr⟩:=part_row h.parts;have hil:=(List.getElem?_eq_some_iff.1 hp).1;obtain⟨g,rfl,hg,hfz,hcell⟩:=hr (by omega);obtain⟨pc0,pc1,pc2,pc3,pc4,pc5,pc6⟩:=hcell i p hp;have q3:w.cell? ⟨L.sb,3,none⟩=some (.slice (some ⟨g,0,none⟩) S.parts.length cap):=by rw[←hv];exact h.blk.cell 3
 have HG:=qq (fun w2 (hb:Below w.heap.size w w2)=>SGoes.same h hb);obtain⟨n,hnn⟩:∃n,n=S.parts.length:=⟨_,rfl⟩
 rw[←hnn] at q3 hil;have hsb:=h.blk.lt;have hr8:(p.rg != -1)=true:=by simpa using hr7
 clear hr7;have hi0:(0:Int)≤(i:Int):=by omega
 have hi1:(i:Int)<(n:Int):=by omega
 obtain⟨k,an,aq,rg,nd,pt,pr,oc,dp,pa,st,hw,de,ex⟩:=f;dsimp only at hk hi;subst hk hi;dsimp only[factV,factC] at*;clear hn hr hcell hnn hv hp pc0 pc1 pc3 pc4 pc5 pc6 h;go_enter Tryz.func87,Tryz.ntmps87;go_wp2_with fail;go_region
 all_goals go_wp2_with fail
 all_goals go_ret
 all_goals exact⟨rfl,HG.out _ (by go_grown)⟩
end Go.Proofs.YtlkajejbfojkeaaGreatDoor
