/- LdA, LdB -/
import Derived.Test.YtlkajejbfojkeaaGreatDoorWRfcBToJoA
set_option linter.unusedSimpArgs false
set_option linter.unusedVariables false
set_option maxRecDepth 100000
set_option maxHeartbeats 16000000
namespace Go.Proofs.YtlkajejbfojkeaaGreatDoor
open Go.RowKit
attribute [local go_sem] store_float
structure ReadR (B:Nat) (w:World) (fv mv:Value) (r:SRes):Prop where
 f:ReadFacts w fv r.fs
 m:ReadMsgs w mv r.ms
 ff:∀k,sliceBlock fv=some k→B≤k
 mf:∀k,sliceBlock mv=some k→B≤k
def ResR (r:SRes) (w:World) (e:Ending) (w':World):Prop:=∃a c b d,e=.returned (.agg #[.slice a r.fs.length c,.slice b r.ms.length d,r.wk])∧ReadR w.heap.size w' (.slice a r.fs.length c) (.slice b r.ms.length d) r∧Below w.heap.size w w'
theorem ReadMsgs.heap {w w':World} {v:Value} {ms:List SMsg} (h:ReadMsgs w v ms) (hz:w.heap.size≤w'.heap.size) (he:∀k,sliceBlock v=some k→w'.heap[k]? =w.heap[k]?):ReadMsgs w' v ms:=by
 obtain⟨a,cap,rfl,hr⟩:=h;refine⟨a,cap,rfl,fun hn=> ?_⟩;obtain⟨b,off,rfl,hb,hc⟩:=hr hn;have hh:=he b rfl;have hcell:∀o,w'.cell? ⟨b,o,none⟩=w.cell? ⟨b,o,none⟩:=fun o=>by simp[World.cell?,hh]
 refine⟨b,off,rfl,Nat.lt_of_lt_of_le hb hz,fun j hj=> ?_⟩;obtain⟨h0,h1,h2,h3,h4,h5,h6,h7,h8⟩:=hc j hj;exact⟨(hcell _).trans h0,(hcell _).trans h1,(hcell _).trans h2,(hcell _).trans h3,(hcell _).trans h4,(hcell _).trans h5,(hcell _).trans h6,(hcell _).trans h7,(hcell _).trans h8⟩
theorem ReadR.heap {B:Nat} {w w':World} {fv mv:Value} {r:SRes} (h:ReadR B w fv mv r) (hz:w.heap.size≤w'.heap.size) (he:∀k,B≤k→w'.heap[k]? =w.heap[k]?):ReadR B w' fv mv r:=
 ⟨h.f.heap hz (fun k hk=>he k (h.ff k hk)),h.m.heap hz (fun k hk=>he k (h.mf k hk)),h.ff,h.mf⟩
theorem ReadR.below {B:Nat} {w w':World} {fv mv:Value} {r:SRes} (h:ReadR B w fv mv r) (hb:Below w.heap.size w w'):ReadR B w' fv mv r:=⟨h.f.below hb,h.m.below hb,h.ff,h.mf⟩
theorem ReadR.mono {B B':Nat} {w:World} {fv mv:Value} {r:SRes} (h:ReadR B w fv mv r) (hb:B'≤B):ReadR B' w fv mv r:=⟨h.f,h.m,fun k hk=>Nat.le_trans hb (h.ff k hk),fun k hk=>Nat.le_trans hb (h.mf k hk)⟩
theorem ReadR.put3 {B:Nat} {w:World} {fv mv:Value} {r:SRes} (h:ReadR B w fv mv r) (b:Nat) (hb:b<B) (x y z:Value):ReadR B (((w.setCell ⟨b,0,none⟩ x).setCell ⟨b,1,none⟩ y).setCell ⟨b,2,none⟩ z) fv mv r:=
 h.heap (by simp) (fun k hk=>by rw[Below.heap_setCell _ _ _ _ (by dsimp only;omega),Below.heap_setCell _ _ _ _ (by dsimp only;omega),Below.heap_setCell _ _ _ _ (by dsimp only;omega)])
theorem no_block {c:Nat} {n:Nat} {P:Nat→Prop}:∀k,sliceBlock (.slice none n c)=some k→P k:=fun k h=>by simp[sliceBlock] at h
theorem one_block {b c n:Nat} {B:Nat} (h:B≤b):∀k,sliceBlock (.slice (some ⟨b,0,none⟩) n c)=some k→B≤k:=fun k hk=>by simp[sliceBlock] at hk;omega
theorem lmsg_of (rn rp sp sd ss sh an aq oc dp:Int) (ex:Nat) (pa de:Int) (va:Option Addr) (vn vc:Nat) (nd rg:Int) (k:Int) (w:World):Calls Tryz.prog 168 #[.agg #[rn,rp,sp,sd,ss,sh,an,aq,oc,dp,.float .f64 ex,pa,de,.slice va vn vc,nd,rg],.int .i64 k] w (Makes (msgV ⟨k,nd,rn,an,aq,rg,rp,0,0⟩) w):=by
 dsimp only[msgV,msgA]
 have HT0:Hid (((w.alloc (.cells #[rn,rp,sp,sd,ss,sh,an,aq,oc,dp,.float .f64 ex,pa,de,.slice va vn vc,nd,rg] 247)).alloc (.cells #[.int .i64 0,.int .i64 0,.int .i64 0,.int .i64 0,.int .i64 0,.int .i64 0,.int .i64 0,.int .i64 0,.int .i64 0] 81)).heap[w.heap.size+1]? =some (.cells #[.int .i64 0,.int .i64 0,.int .i64 0,.int .i64 0,.int .i64 0,.int .i64 0,.int .i64 0,.int .i64 0,.int .i64 0] 81 (0,0))):=qq (by rw[show w.heap.size+1=(w.alloc (.cells #[rn,rp,sp,sd,ss,sh,an,aq,oc,dp,.float .f64 ex,pa,de,.slice va vn vc,nd,rg] 247)).heap.size by simp];exact heap_alloc_new _ _)
 go_enter Tryz.func168,Tryz.ntmps168
 go_wp2_with (refine wpList_store_row rfl 81 (.tmp 4) (.tmp 20) rfl (w.heap.size+1) #[.int .i64 k,.int .i64 nd,.int .i64 rn,.int .i64 an,.int .i64 aq,.int .i64 rg,.int .i64 rp,.int .i64 0,.int .i64 0] rfl rfl 81 #[.int .i64 0,.int .i64 0,.int .i64 0,.int .i64 0,.int .i64 0,.int .i64 0,.int .i64 0,.int .i64 0,.int .i64 0] HT0.out (by kernel_rfl) rfl (by simp[Value.oneCell']) ?_)
 obtain⟨HFr,hgr⟩:=row_end (cells:= #[.int .i64 k,.int .i64 nd,.int .i64 rn,.int .i64 an,.int .i64 aq,.int .i64 rg,.int .i64 rp,.int .i64 0,.int .i64 0]) HT0.out;obtain⟨q1,f1⟩:=HFr.out
 exact bodyPost_ret (v:=.agg #[k,nd,rn,an,aq,rg,rp,.int .i64 0,.int .i64 0]) (by simp[results,Tryz.results168,go_sem,q1,f1]) rfl ⟨rfl,(show Below w.heap.size w _ by go_grown).grown hgr (by first | omega | (simp;done) | (simp;omega)) (fun k hk=>by injection hk with hk;omega)⟩
theorem lseated_of (rn rp sp sd ss sh an aq oc dp:Int) (ex:Nat) (pa de:Int) (va:Option Addr) (vn vc:Nat) (nd rg:Int) (xp xd xs xh:Int) (w:World):Calls Tryz.prog 172 #[.agg #[rn,rp,sp,sd,ss,sh,an,aq,oc,dp,.float .f64 ex,pa,de,.slice va vn vc,nd,rg],.agg #[xp,xd,xs,xh]] w (Makes (factV (fSeat an aq rg xs xh)) w):=by
 dsimp only[factV,factC,fSeat]
 have HT0:Hid ((((w.alloc (.cells #[rn,rp,sp,sd,ss,sh,an,aq,oc,dp,.float .f64 ex,pa,de,.slice va vn vc,nd,rg] 247)).alloc (.cells #[xp,xd,xs,xh] 53)).alloc (.cells #[.int .i64 0,.int .i64 0,.int .i64 0,.int .i64 0,.int .i64 0,.int .i64 0,.int .i64 0,.int .i64 0,.int .i64 0,.int .i64 0,.int .i64 0,.int .i64 0,.int .i64 0,.float .f64 0] 39)).heap[w.heap.size+1+1]? =some (.cells #[.int .i64 0,.int .i64 0,.int .i64 0,.int .i64 0,.int .i64 0,.int .i64 0,.int .i64 0,.int .i64 0,.int .i64 0,.int .i64 0,.int .i64 0,.int .i64 0,.int .i64 0,.float .f64 0] 39 (0,0))):=qq (by rw[show w.heap.size+1+1=((w.alloc (.cells #[rn,rp,sp,sd,ss,sh,an,aq,oc,dp,.float .f64 ex,pa,de,.slice va vn vc,nd,rg] 247)).alloc (.cells #[xp,xd,xs,xh] 53)).heap.size by simp];exact heap_alloc_new _ _)
 go_enter Tryz.func172,Tryz.ntmps172
 go_wp2_with (refine wpList_store_row rfl 39 (.tmp 4) (.tmp 15) rfl (w.heap.size+1+1) #[.int .i64 3,.int .i64 an,.int .i64 aq,.int .i64 rg,.int .i64 0,.int .i64 0,.int .i64 0,.int .i64 0,.int .i64 0,.int .i64 0,.int .i64 xs,.int .i64 xh,.int .i64 0,.float .f64 0] rfl rfl 39 #[.int .i64 0,.int .i64 0,.int .i64 0,.int .i64 0,.int .i64 0,.int .i64 0,.int .i64 0,.int .i64 0,.int .i64 0,.int .i64 0,.int .i64 0,.int .i64 0,.int .i64 0,.float .f64 0] HT0.out (by kernel_rfl) rfl (by simp[Value.oneCell']) ?_)
 obtain⟨HFr,hgr⟩:=row_end (cells:= #[.int .i64 3,.int .i64 an,.int .i64 aq,.int .i64 rg,.int .i64 0,.int .i64 0,.int .i64 0,.int .i64 0,.int .i64 0,.int .i64 0,.int .i64 xs,.int .i64 xh,.int .i64 0,.float .f64 0]) HT0.out;obtain⟨q1,f1⟩:=HFr.out
 exact bodyPost_ret (v:=.agg #[.int .i64 3,an,aq,rg,.int .i64 0,.int .i64 0,.int .i64 0,.int .i64 0,.int .i64 0,.int .i64 0,xs,xh,.int .i64 0,.float .f64 0]) (by simp[results,Tryz.results172,go_sem,q1,f1]) rfl ⟨rfl,(show Below w.heap.size w _ by go_grown).grown hgr (by first | omega | (simp;done) | (simp;omega)) (fun k hk=>by injection hk with hk;omega)⟩
theorem lanswer_of (m:SMsg) (k c:Int) (w:World):Calls Tryz.prog 165 #[msgV m,.int .i64 k,.int .i64 c] w (ResR ⟨[],[ans m k c],0⟩ w):=by
 have HA:=qq (fun W=>answer_of m k c W);obtain⟨mk,fr,tq,man,maq,mrg,mpt,mpr,mco⟩:=m;dsimp only[msgV,msgA,ans,ResR] at*;go_enter Tryz.func165,Tryz.ntmps165;go_wp2_with fail;refine(HA.out _).mono ?_;rintro e w1 ⟨rfl,hb1⟩;have B1:Below w.heap.size w w1:=below_then (by go_grown) hb1
 have HV:=qq ((Blk.fresh (w.alloc (.cells #[mk,fr,tq,man,maq,mrg,mpt,mpr,mco] 81)) #[.slice none 0 0,.slice none 0 0,.int .i64 0] 87 (w.heap.size+1) (by simp)).below hb1);have lv:=HV.out.lt;have qv:=HV.out.cell;have fv:=HV.out.free;have lw:w.heap.size<w1.heap.size:=by omega
 clear hb1;go_wp2_with fail
 refine bodyPost_ret (v:=.agg #[.slice none 0 0,.slice (some ⟨w1.heap.size,0,none⟩) 1 1,.int .i64 0]) ?_ rfl ⟨none,0,some ⟨w1.heap.size,0,none⟩,1,rfl,⟨read_nil,?_,no_block,one_block B1.size⟩,?_⟩<;>first | (simp[results,Tryz.results165,go_sem,qv,fv,lv,Nat.ne_of_lt lv,lw];done) | (refine read_mone ?_;(repeat' first | exact Blk.fresh _ _ _ _ rfl | exact Blk.fresh _ _ _ _ (by simp) | refine Blk.alloc ?_ _ | refine Blk.drew ?_ | refine Blk.other ?_ ?_ _ | (simp;done) | omega | (dsimp only;omega));done) | (go_grown;done)
theorem lback_of (m:SMsg) (rg pr:Int) (w:World):Calls Tryz.prog 241 #[msgV m,.int .i64 rg,.int .i64 pr] w (Makes (msgV (lBack m rg pr)) w):=by
 have HA:=qq (fun W=>answer_of m 18 0 W);obtain⟨mk,fr,tq,man,maq,mrg,mpt,mpr,mco⟩:=m;dsimp only[msgV,msgA,ans,lBack] at*;go_enter Tryz.func241,Tryz.ntmps241;go_wp2_with fail;refine(HA.out _).mono ?_;rintro e w1 ⟨rfl,hb1⟩;have B1:Below w.heap.size w w1:=below_then (by go_grown) hb1;have hz:w.heap.size+1<w1.heap.size:=by have:=hb1.size;simp at this;omega
 have HT1:Hid (w1.heap[w.heap.size+1]? =some (.cells #[.int .i64 0,.int .i64 0,.int .i64 0,.int .i64 0,.int .i64 0,.int .i64 0,.int .i64 0,.int .i64 0,.int .i64 0] 81 (0,0))):=qq ((hb1.block _ (by simp)).trans (by rw[show w.heap.size+1=(w.alloc (.cells #[mk,fr,tq,man,maq,mrg,mpt,mpr,mco] 81)).heap.size by simp];exact heap_alloc_new _ _))
 have HT0:Hid ((w1.alloc (.cells #[.int .i64 18,tq,fr,man,maq,rg,mpt,pr,.int .i64 0] 81)).heap[w.heap.size+1]? =some (.cells #[.int .i64 0,.int .i64 0,.int .i64 0,.int .i64 0,.int .i64 0,.int .i64 0,.int .i64 0,.int .i64 0,.int .i64 0] 81 (0,0))):=qq ((((Below.refl w1.heap.size w1).alloc (Nat.le_refl _) _).block _ hz).trans HT1.out);clear hb1
 go_wp2_with (refine wpList_store_row rfl 81 (.tmp 6) (.tmp 14) rfl (w.heap.size+1) #[.int .i64 18,.int .i64 tq,.int .i64 fr,.int .i64 man,.int .i64 maq,.int .i64 rg,.int .i64 mpt,.int .i64 pr,.int .i64 0] rfl rfl 81 #[.int .i64 0,.int .i64 0,.int .i64 0,.int .i64 0,.int .i64 0,.int .i64 0,.int .i64 0,.int .i64 0,.int .i64 0] HT0.out (by kernel_rfl) rfl (by simp[Value.oneCell']) ?_)
 obtain⟨HFr,hgr⟩:=row_end (cells:= #[.int .i64 18,.int .i64 tq,.int .i64 fr,.int .i64 man,.int .i64 maq,.int .i64 rg,.int .i64 mpt,.int .i64 pr,.int .i64 0]) HT0.out;obtain⟨q1,f1⟩:=HFr.out
 exact bodyPost_ret (v:=.agg #[.int .i64 18,tq,fr,man,maq,rg,mpt,pr,.int .i64 0]) (by simp[results,Tryz.results241,go_sem,q1,f1]) rfl ⟨rfl,(show Below w.heap.size w (World.alloc _ _) by go_grown).grown hgr (by first | omega | (simp;done) | (simp;omega)) (fun k hk=>by injection hk with hk;omega)⟩
theorem ldirects_of (k:Int) (w:World):Calls Tryz.prog 171 #[.int .i64 k] w (Gives (.bool (decide (k=2∨k=9∨k=10∨k=11))) w):=by
 obtain⟨a1,h1⟩:∃a,a=(k==2):=⟨_,rfl⟩
 obtain⟨a2,h2⟩:∃a,a=(k==9):=⟨_,rfl⟩
 obtain⟨a3,h3⟩:∃a,a=(k==10):=⟨_,rfl⟩
 obtain⟨a4,h4⟩:∃a,a=(k==11):=⟨_,rfl⟩
 have hd:decide (k=2∨k=9∨k=10∨k=11)=(a1 || (a2 || (a3 || a4))):=by rw[h1,h2,h3,h4,Bool.eq_iff_iff];simp
 rw[hd];clear hd;have e1:=h1.symm;have e2:=h2.symm;have e3:=h3.symm;have e4:=h4.symm;clear h1 h2 h3 h4
 cases a1
 case true=>
  go_enter Tryz.func171,Tryz.ntmps171;go_wp2_with fail;go_ret;exact⟨rfl,rfl⟩
 cases a2
 case true=>
  go_enter Tryz.func171,Tryz.ntmps171;go_wp2_with fail;go_ret;exact⟨rfl,rfl⟩
 cases a3
 case true=>
  go_enter Tryz.func171,Tryz.ntmps171;go_wp2_with fail;go_ret;exact⟨rfl,rfl⟩
 go_enter Tryz.func171,Tryz.ntmps171;go_wp2_with fail;go_ret;exact⟨ret_bool (by simp),rfl⟩
theorem lworks_of (x:MSeat) (w:World):Calls Tryz.prog 182 #[seatV x] w (Makes (.bool (lWorks x)) w):=by
 obtain⟨p,d,s,h⟩:=x;dsimp only[seatV,lWorks];by_cases h1:s=1
 · subst h1;go_enter Tryz.func182,Tryz.ntmps182;go_wp2_with fail;go_ret;exact⟨rfl,by go_grown⟩
 · have e1:(s==1)=false:=by simpa using h1
   by_cases h4:s=4
   · subst h4;clear e1 h1;go_enter Tryz.func182,Tryz.ntmps182;go_wp2_with fail;go_ret;exact⟨rfl,by go_grown⟩
   · have e4:(s==4)=false:=by simpa using h4
     rw[decide_eq_false (by omega)];clear h1 h4;go_enter Tryz.func182,Tryz.ntmps182;go_wp2_with fail;go_ret;exact⟨rfl,by go_grown⟩
theorem RegC.grown {w w':World} {b o:Nat} {r:SReg} {row:Option Nat} (h:RegC w b o r) (hg:w.grownBy w' row) (hne:row≠some b):RegC w' b o r:=
 ⟨hg.cell h.1 (fun e=>hne e.symm),hg.cell h.2.1 (fun e=>hne e.symm),hg.cell h.2.2.1 (fun e=>hne e.symm),hg.cell h.2.2.2.1 (fun e=>hne e.symm),hg.cell h.2.2.2.2.1 (fun e=>hne e.symm),hg.cell h.2.2.2.2.2 (fun e=>hne e.symm)⟩
theorem lfind_none (L:SLoc) (S:Sto) (an aq rg:Int) (w:World) (h:StoreAt L S w) (hG:StoGood S) (hg:lGet S an aq=none):Calls Tryz.prog 163 #[.pointer (some ⟨L.sb,0,none⟩),.agg #[an,aq],.int .i64 rg] w (Makes (.tuple #[.agg #[.int .i64 0,.int .i64 0,.int .i64 0,.int .i64 0,.int .i64 0,.int .i64 0,.int .i64 0,.int .i64 0,.int .i64 0,.int .i64 0,.float .f64 0,.int .i64 0,.int .i64 0,.slice none 0 0,.int .i64 0,.int .i64 0],.bool false,.bool false]) w):=by
 have HF:=qq (fun W hW=>Find_no L S an aq W hW hG hg);have H:=qq h;clear h hG hg;go_enter Tryz.func163,Tryz.ntmps163;go_wp2_with fail;refine(HF.out _ (H.out.below (by go_grown))).mono ?_;rintro e w1 ⟨rfl,hb1⟩;have B1:Below w.heap.size w w1:=below_then (by go_grown) hb1;have hz:w.heap.size+1<w1.heap.size:=by have:=hb1.size;simp at this;omega
 have HT1:Hid (w1.heap[w.heap.size+1]? =some (.cells #[.int .i64 0,.int .i64 0,.int .i64 0,.int .i64 0,.int .i64 0,.int .i64 0,.int .i64 0,.int .i64 0,.int .i64 0,.int .i64 0,.float .f64 0,.int .i64 0,.int .i64 0,.slice none 0 0,.int .i64 0,.int .i64 0] 247 (0,0))):=qq ((hb1.block _ (by simp)).trans (by rw[show w.heap.size+1=(w.alloc (.cells #[an,aq] 36)).heap.size by simp];exact heap_alloc_new _ _))
 have HT0:Hid ((w1.alloc (.cells #[.int .i64 0,.int .i64 0,.int .i64 0,.int .i64 0,.float .f64 0,.int .i64 0,.int .i64 0,.slice none 0 0] 51)).heap[w.heap.size+1]? =some (.cells #[.int .i64 0,.int .i64 0,.int .i64 0,.int .i64 0,.int .i64 0,.int .i64 0,.int .i64 0,.int .i64 0,.int .i64 0,.int .i64 0,.float .f64 0,.int .i64 0,.int .i64 0,.slice none 0 0,.int .i64 0,.int .i64 0] 247 (0,0))):=qq ((((Below.refl w1.heap.size w1).alloc (Nat.le_refl _) _).block _ hz).trans HT1.out)
 clear hb1
 go_wp2_with (refine wpList_store_row rfl 247 (.tmp 6) (.tmp 30) rfl (w.heap.size+1) #[.int .i64 0,.int .i64 0,.int .i64 0,.int .i64 0,.int .i64 0,.int .i64 0,.int .i64 0,.int .i64 0,.int .i64 0,.int .i64 0,.float .f64 0,.int .i64 0,.int .i64 0,.slice none 0 0,.int .i64 0,.int .i64 0] rfl rfl 247 #[.int .i64 0,.int .i64 0,.int .i64 0,.int .i64 0,.int .i64 0,.int .i64 0,.int .i64 0,.int .i64 0,.int .i64 0,.int .i64 0,.float .f64 0,.int .i64 0,.int .i64 0,.slice none 0 0,.int .i64 0,.int .i64 0] HT0.out (by kernel_rfl) rfl (by simp[Value.oneCell']) ?_)
 obtain⟨HFr,hgr⟩:=row_end (cells:= #[.int .i64 0,.int .i64 0,.int .i64 0,.int .i64 0,.int .i64 0,.int .i64 0,.int .i64 0,.int .i64 0,.int .i64 0,.int .i64 0,.float .f64 0,.int .i64 0,.int .i64 0,.slice none 0 0,.int .i64 0,.int .i64 0]) HT0.out;obtain⟨q1,f1⟩:=HFr.out
 exact bodyPost_ret (v:=.tuple #[.agg #[.int .i64 0,.int .i64 0,.int .i64 0,.int .i64 0,.int .i64 0,.int .i64 0,.int .i64 0,.int .i64 0,.int .i64 0,.int .i64 0,.float .f64 0,.int .i64 0,.int .i64 0,.slice none 0 0,.int .i64 0,.int .i64 0],.bool false,.bool false]) (by simp[results,Tryz.results163,go_sem,q1,f1]) rfl ⟨rfl,(show Below w.heap.size w (World.alloc _ _) by go_grown).grown hgr (by first | omega | (simp;done) | (simp;omega)) (fun k hk=>by injection hk with hk;omega)⟩
theorem lfind_noreg (L:SLoc) (S:Sto) (na qa rg:Int) (i:Nat) (a:SAct) (w:World) (h:StoreAt L S w) (hG:StoGood S) (hg:lGet S na qa=some (i,a)) (hr:lReg a rg=none):Calls Tryz.prog 163 #[.pointer (some ⟨L.sb,0,none⟩),.agg #[na,qa],.int .i64 rg] w (Makes (.tuple #[.agg #[.int .i64 0,.int .i64 0,.int .i64 0,.int .i64 0,.int .i64 0,.int .i64 0,.int .i64 0,.int .i64 0,.int .i64 0,.int .i64 0,.float .f64 0,.int .i64 0,.int .i64 0,.slice none 0 0,.int .i64 0,.int .i64 0],.bool true,.bool false]) w):=by
 have HF:=qq (fun W hW=>Find_yes L S na qa i a W hW hG hg);have H:=qq h;have h6:=(hG.act a (lGet_some hg).2.2.1).len;obtain⟨ha1,ha2⟩:=(lGet_some hg).2.2.2;obtain⟨an,aq,oc,dp,ex,pa,de,rs⟩:=a;dsimp only at ha1 ha2 h6;subst ha1 ha2;unfold ActOut at HF;dsimp only[actC] at HF;have hc:rg<0∨(rs.length:Int)≤rg:=by
  unfold lReg at hr;split at hr
  · right;have:=List.getElem?_eq_none_iff.1 hr;dsimp only at this;omega
  · left;omega
 obtain⟨n,hn⟩:∃n,n=rs.length:=⟨_,rfl⟩
 rw[←hn] at hc HF;have HN:=qq hn;clear h hG hg hr hn h6;by_cases h0:rg<0
 · have d0:decide (rg<0)=true:=decide_eq_true h0;clear hc;go_enter Tryz.func163,Tryz.ntmps163;go_wp2_with fail;refine(HF.out _ (H.out.below (by go_grown))).mono ?_;rintro e w1 ⟨v',rfl,ho,hb1⟩;have B1:Below w.heap.size w w1:=below_then (by go_grown) hb1;have hz:w.heap.size+1<w1.heap.size:=by have:=hb1.size;simp at this;omega
   have HT1:Hid (w1.heap[w.heap.size+1]? =some (.cells #[.int .i64 0,.int .i64 0,.int .i64 0,.int .i64 0,.int .i64 0,.int .i64 0,.int .i64 0,.int .i64 0,.int .i64 0,.int .i64 0,.float .f64 0,.int .i64 0,.int .i64 0,.slice none 0 0,.int .i64 0,.int .i64 0] 247 (0,0))):=qq ((hb1.block _ (by simp)).trans (by rw[show w.heap.size+1=(w.alloc (.cells #[an,aq] 36)).heap.size by simp];exact heap_alloc_new _ _))
   obtain⟨va,vc,rfl,hlen,hrow⟩:=reg_row ho
   have HT0:Hid ((w1.alloc (.cells #[an,aq,oc,dp,.float .f64 ex,pa,de,.slice va n vc] 51)).heap[w.heap.size+1]? =some (.cells #[.int .i64 0,.int .i64 0,.int .i64 0,.int .i64 0,.int .i64 0,.int .i64 0,.int .i64 0,.int .i64 0,.int .i64 0,.int .i64 0,.float .f64 0,.int .i64 0,.int .i64 0,.slice none 0 0,.int .i64 0,.int .i64 0] 247 (0,0))):=qq ((((Below.refl w1.heap.size w1).alloc (Nat.le_refl _) _).block _ hz).trans HT1.out)
   clear hb1 ho hlen hrow
   go_wp2_with (refine wpList_store_row rfl 247 (.tmp 6) (.tmp 30) rfl (w.heap.size+1) #[.int .i64 0,.int .i64 0,.int .i64 0,.int .i64 0,.int .i64 0,.int .i64 0,.int .i64 0,.int .i64 0,.int .i64 0,.int .i64 0,.float .f64 0,.int .i64 0,.int .i64 0,.slice none 0 0,.int .i64 0,.int .i64 0] rfl rfl 247 #[.int .i64 0,.int .i64 0,.int .i64 0,.int .i64 0,.int .i64 0,.int .i64 0,.int .i64 0,.int .i64 0,.int .i64 0,.int .i64 0,.float .f64 0,.int .i64 0,.int .i64 0,.slice none 0 0,.int .i64 0,.int .i64 0] HT0.out (by kernel_rfl) rfl (by simp[Value.oneCell']) ?_)
   obtain⟨HFr,hgr⟩:=row_end (cells:= #[.int .i64 0,.int .i64 0,.int .i64 0,.int .i64 0,.int .i64 0,.int .i64 0,.int .i64 0,.int .i64 0,.int .i64 0,.int .i64 0,.float .f64 0,.int .i64 0,.int .i64 0,.slice none 0 0,.int .i64 0,.int .i64 0]) HT0.out;obtain⟨q1,f1⟩:=HFr.out
   exact bodyPost_ret (v:=.tuple #[.agg #[.int .i64 0,.int .i64 0,.int .i64 0,.int .i64 0,.int .i64 0,.int .i64 0,.int .i64 0,.int .i64 0,.int .i64 0,.int .i64 0,.float .f64 0,.int .i64 0,.int .i64 0,.slice none 0 0,.int .i64 0,.int .i64 0],.bool true,.bool false]) (by simp[results,Tryz.results163,go_sem,q1,f1]) rfl ⟨rfl,(show Below w.heap.size w (World.alloc _ _) by go_grown).grown hgr (by first | omega | (simp;done) | (simp;omega)) (fun k hk=>by injection hk with hk;omega)⟩
 · have d0:decide (rg<0)=false:=decide_eq_false h0;have d1:decide ((n:Int)≤rg)=true:=decide_eq_true (hc.resolve_left h0);clear hc;go_enter Tryz.func163,Tryz.ntmps163;go_wp2_with fail;refine(HF.out _ (H.out.below (by go_grown))).mono ?_;rintro e w1 ⟨v',rfl,ho,hb1⟩;have B1:Below w.heap.size w w1:=below_then (by go_grown) hb1;have hz:w.heap.size+1<w1.heap.size:=by have:=hb1.size;simp at this;omega
   have HT1:Hid (w1.heap[w.heap.size+1]? =some (.cells #[.int .i64 0,.int .i64 0,.int .i64 0,.int .i64 0,.int .i64 0,.int .i64 0,.int .i64 0,.int .i64 0,.int .i64 0,.int .i64 0,.float .f64 0,.int .i64 0,.int .i64 0,.slice none 0 0,.int .i64 0,.int .i64 0] 247 (0,0))):=qq ((hb1.block _ (by simp)).trans (by rw[show w.heap.size+1=(w.alloc (.cells #[an,aq] 36)).heap.size by simp];exact heap_alloc_new _ _))
   obtain⟨va,vc,rfl,hlen,hrow⟩:=reg_row ho
   have HT0:Hid ((w1.alloc (.cells #[an,aq,oc,dp,.float .f64 ex,pa,de,.slice va n vc] 51)).heap[w.heap.size+1]? =some (.cells #[.int .i64 0,.int .i64 0,.int .i64 0,.int .i64 0,.int .i64 0,.int .i64 0,.int .i64 0,.int .i64 0,.int .i64 0,.int .i64 0,.float .f64 0,.int .i64 0,.int .i64 0,.slice none 0 0,.int .i64 0,.int .i64 0] 247 (0,0))):=qq ((((Below.refl w1.heap.size w1).alloc (Nat.le_refl _) _).block _ hz).trans HT1.out)
   clear hb1 ho hlen hrow
   go_wp2_with (refine wpList_store_row rfl 247 (.tmp 6) (.tmp 30) rfl (w.heap.size+1) #[.int .i64 0,.int .i64 0,.int .i64 0,.int .i64 0,.int .i64 0,.int .i64 0,.int .i64 0,.int .i64 0,.int .i64 0,.int .i64 0,.float .f64 0,.int .i64 0,.int .i64 0,.slice none 0 0,.int .i64 0,.int .i64 0] rfl rfl 247 #[.int .i64 0,.int .i64 0,.int .i64 0,.int .i64 0,.int .i64 0,.int .i64 0,.int .i64 0,.int .i64 0,.int .i64 0,.int .i64 0,.float .f64 0,.int .i64 0,.int .i64 0,.slice none 0 0,.int .i64 0,.int .i64 0] HT0.out (by kernel_rfl) rfl (by simp[Value.oneCell']) ?_)
   obtain⟨HFr,hgr⟩:=row_end (cells:= #[.int .i64 0,.int .i64 0,.int .i64 0,.int .i64 0,.int .i64 0,.int .i64 0,.int .i64 0,.int .i64 0,.int .i64 0,.int .i64 0,.float .f64 0,.int .i64 0,.int .i64 0,.slice none 0 0,.int .i64 0,.int .i64 0]) HT0.out;obtain⟨q1,f1⟩:=HFr.out
   exact bodyPost_ret (v:=.tuple #[.agg #[.int .i64 0,.int .i64 0,.int .i64 0,.int .i64 0,.int .i64 0,.int .i64 0,.int .i64 0,.int .i64 0,.int .i64 0,.int .i64 0,.float .f64 0,.int .i64 0,.int .i64 0,.slice none 0 0,.int .i64 0,.int .i64 0],.bool true,.bool false]) (by simp[results,Tryz.results163,go_sem,q1,f1]) rfl ⟨rfl,(show Below w.heap.size w (World.alloc _ _) by go_grown).grown hgr (by first | omega | (simp;done) | (simp;omega)) (fun k hk=>by injection hk with hk;omega)⟩
def SeatOut (a:SAct) (r:SReg) (nd rg:Int) (w:World) (e:Ending) (w':World):Prop:=∃va n vc,e=.returned (.tuple #[.agg #[r.n,r.p,r.seat.p,r.seat.d,r.seat.s,r.seat.h,a.an,a.aq,a.oc,a.dp,.float .f64 a.ex,a.pa,a.de,.slice va n vc,nd,rg],.bool true,.bool true])∧Below w.heap.size w w'
theorem lfind_yes (L:SLoc) (S:Sto) (na qa rg:Int) (i:Nat) (a:SAct) (r:SReg) (w:World) (h:StoreAt L S w) (hG:StoGood S) (hg:lGet S na qa=some (i,a)) (hr:lReg a rg=some r):Calls Tryz.prog 163 #[.pointer (some ⟨L.sb,0,none⟩),.agg #[na,qa],.int .i64 rg] w (SeatOut a r S.node rg w):=by
 have HF:=qq (fun W hW=>Find_yes L S na qa i a W hW hG hg);have H:=qq h;have h6:=(hG.act a (lGet_some hg).2.2.1).len;obtain⟨ha1,ha2⟩:=(lGet_some hg).2.2.2;obtain⟨an,aq,oc,dp,ex,pa,de,rs⟩:=a;dsimp only at ha1 ha2 h6;subst ha1 ha2;unfold ActOut at HF;dsimp only[actC] at HF;have HND:=qq (fun W hW=>node_of L S W hW);obtain⟨nd,hnd⟩:∃nd,nd=S.node:=⟨_,rfl⟩
 rw[←hnd] at HND⊢;have hc:0≤rg∧rs[rg.toNat]? =some r:=by
  unfold lReg at hr;split at hr
  · exact⟨by assumption,hr⟩
  · cases hr
 obtain⟨h0,hgr0⟩:=hc;obtain⟨j,rfl⟩:∃j:Nat,rg=j:=⟨rg.toNat,by omega⟩
 rw[Int.toNat_natCast] at hgr0;have hlt:=(List.getElem?_eq_some_iff.1 hgr0).1;obtain⟨n,hn⟩:∃n,n=rs.length:=⟨_,rfl⟩
 rw[←hn] at hlt HF h6;obtain⟨rn,rp,⟨sp,sd,ss,sh⟩⟩:=r;have HN:=qq hn;have HGR:=qq hgr0;have hj0:(0:Int)≤(j:Int):=by omega
 have hj1:(j:Int)<(n:Int):=by omega
 have d0:decide ((j:Int)<0)=false:=decide_eq_false (by omega);have d1:decide ((n:Int)≤(j:Int))=false:=decide_eq_false (by omega);have d2:decide (n≤j)=false:=decide_eq_false (by omega);clear h hG hg hr hn hgr0 h0 hnd;go_enter Tryz.func163,Tryz.ntmps163;go_wp2_with fail;refine(HF.out _ (H.out.below (by go_grown))).mono ?_;rintro e w1 ⟨v',rfl,ho,hb1⟩
 have B1:Below w.heap.size w w1:=below_then (by go_grown) hb1;have hz:w.heap.size+1<w1.heap.size:=by have:=hb1.size;simp at this;omega
 have HT1:Hid (w1.heap[w.heap.size+1]? =some (.cells #[.int .i64 0,.int .i64 0,.int .i64 0,.int .i64 0,.int .i64 0,.int .i64 0,.int .i64 0,.int .i64 0,.int .i64 0,.int .i64 0,.float .f64 0,.int .i64 0,.int .i64 0,.slice none 0 0,.int .i64 0,.int .i64 0] 247 (0,0))):=qq ((hb1.block _ (by simp)).trans (by rw[show w.heap.size+1=(w.alloc (.cells #[an,aq] 36)).heap.size by simp];exact heap_alloc_new _ _))
 obtain⟨va,vc,rfl,hlen,hrow⟩:=reg_row ho;obtain⟨g,rfl,hgl,hfz,hcell⟩:=hrow (by omega);have hat:=hcell j ⟨rn,rp,⟨sp,sd,ss,sh⟩⟩ HGR.out;have hgw:=(ho.lt g (by simp[Value.ownBlock])).1;have HA1:=qq (Blk.fresh w1 #[an,aq,oc,dp,.float .f64 ex,pa,de,.slice (some ⟨g,0,none⟩) n vc] 51 _ rfl)
 have HRC:Hid (RegC (World.drew (w1.alloc (.cells #[an,aq,oc,dp,.float .f64 ex,pa,de,.slice (some ⟨g,0,none⟩) n vc] 51))) g (j*6) ⟨rn,rp,⟨sp,sd,ss,sh⟩⟩):=qq (hat.below (by go_grown) hgl);have HSt:=qq (H.out.below (show Below w.heap.size w (World.drew (w1.alloc (.cells #[an,aq,oc,dp,.float .f64 ex,pa,de,.slice (some ⟨g,0,none⟩) n vc] 51))) by go_grown))
 have HB:Hid (Below w.heap.size w (World.drew (w1.alloc (.cells #[an,aq,oc,dp,.float .f64 ex,pa,de,.slice (some ⟨g,0,none⟩) n vc] 51)))):=qq (by go_grown)
 have HT0:Hid ((World.drew (w1.alloc (.cells #[an,aq,oc,dp,.float .f64 ex,pa,de,.slice (some ⟨g,0,none⟩) n vc] 51))).heap[w.heap.size+1]? =some (.cells #[.int .i64 0,.int .i64 0,.int .i64 0,.int .i64 0,.int .i64 0,.int .i64 0,.int .i64 0,.int .i64 0,.int .i64 0,.int .i64 0,.float .f64 0,.int .i64 0,.int .i64 0,.slice none 0 0,.int .i64 0,.int .i64 0] 247 (0,0))):=qq ((((Below.refl w1.heap.size w1).alloc (Nat.le_refl _) _).block _ hz).trans HT1.out)
 have hgn:¬w.heap.size+1=g:=by simp at hgw;omega
 clear hb1 ho hlen hcell hfz hat;have qA:=HA1.out.cell;go_wp2_with fail;clear qA;refine wp_region_held_drew (S:=fun w'=>Blk w' w1.heap.size #[an,aq,oc,dp,.float .f64 ex,pa,de,.slice (some ⟨g,0,none⟩) n vc]∧RegC w' g (j*6) ⟨rn,rp,⟨sp,sd,ss,sh⟩⟩) (by kernel_rfl) (⟨HA1.out.drew,HRC.out⟩) (fun hHeld=> ?_)
 generalize(World.drew (w1.alloc (.cells #[an,aq,oc,dp,.float .f64 ex,pa,de,.slice (some ⟨g,0,none⟩) n vc] 51)))=w2 at*;refine takeU (d:=some 32) 0 rfl rfl hHeld (fun w' hS'=>by have qA:=hS'.1.cell;obtain⟨c0,c1,c2,c3,c4,c5⟩:=hS'.2;dsimp only at c0 c1 c2 c3 c4 c5;clear hS';go_simp;(try rfl)) ?_;simp only[puts]
 refine takeU (d:=some 33) 1 rfl rfl hHeld (fun w' hS'=>by have qA:=hS'.1.cell;obtain⟨c0,c1,c2,c3,c4,c5⟩:=hS'.2;dsimp only at c0 c1 c2 c3 c4 c5;clear hS';go_simp;(try rfl)) ?_;simp only[puts];refine takeU (d:=some 34) 2 rfl rfl hHeld (fun w' hS'=>by have qA:=hS'.1.cell;obtain⟨c0,c1,c2,c3,c4,c5⟩:=hS'.2;dsimp only at c0 c1 c2 c3 c4 c5;clear hS';go_simp;(try rfl)) ?_;simp only[puts]
 refine takeU (d:=some 35) 3 rfl rfl hHeld (fun w' hS'=>by have qA:=hS'.1.cell;obtain⟨c0,c1,c2,c3,c4,c5⟩:=hS'.2;dsimp only at c0 c1 c2 c3 c4 c5;clear hS';go_simp;(try rfl)) ?_;simp only[puts];refine takeU (d:=some 36) 4 rfl rfl hHeld (fun w' hS'=>by have qA:=hS'.1.cell;obtain⟨c0,c1,c2,c3,c4,c5⟩:=hS'.2;dsimp only at c0 c1 c2 c3 c4 c5;clear hS';go_simp;(try rfl)) ?_;simp only[puts]
 refine takeU (d:=some 37) 5 rfl rfl hHeld (fun w' hS'=>by have qA:=hS'.1.cell;obtain⟨c0,c1,c2,c3,c4,c5⟩:=hS'.2;dsimp only at c0 c1 c2 c3 c4 c5;clear hS';go_simp;(try rfl)) ?_;simp only[puts];refine takeU (d:=some 38) 6 rfl rfl hHeld (fun w' hS'=>by have qA:=hS'.1.cell;obtain⟨c0,c1,c2,c3,c4,c5⟩:=hS'.2;dsimp only at c0 c1 c2 c3 c4 c5;clear hS';go_simp;(try rfl)) ?_;simp only[puts]
 refine takeU (d:=some 40) 8 rfl rfl hHeld (fun w' hS'=>by have qA:=hS'.1.cell;obtain⟨c0,c1,c2,c3,c4,c5⟩:=hS'.2;dsimp only at c0 c1 c2 c3 c4 c5;clear hS';go_simp;(try rfl)) ?_;simp only[puts];refine wpAnyH_call (d:=some 39) 7 94 _ _ [.pointer (some ⟨L.sb,0,none⟩)] rfl rfl (by kernel_rfl) rfl (enters_of Tryz.func94 (by kernel_rfl) rfl) (by rfl) (by rfl) ?_
 refine(HND.out _ HSt.out).mono ?_;rintro e w3 ⟨rfl,rfl⟩;refine⟨_,rfl,_,fun _ h=>h,hHeld,fun hHeld=> ?_⟩;simp only[Act.put,puts];refine takeU (d:=some 41) 9 rfl rfl hHeld (fun w' hS'=>by have qA:=hS'.1.cell;obtain⟨c0,c1,c2,c3,c4,c5⟩:=hS'.2;dsimp only at c0 c1 c2 c3 c4 c5;clear hS';go_simp;(try rfl)) ?_;simp only[puts];refine wpAnyH_all (rs:=[10]) (by kernel_rfl) (by simp) (fun j hj=> ?_)
 obtain rfl:j=10:=by simpa using hj
 refine wpOp_step rfl (fun K' hK=> ?_);rw[if_pos (by rfl)]
 refine wp_store_row 247 (.tmp 6) (.tmp 41) rfl (w.heap.size+1) #[.int .i64 rn,.int .i64 rp,.int .i64 sp,.int .i64 sd,.int .i64 ss,.int .i64 sh,.int .i64 an,.int .i64 aq,.int .i64 oc,.int .i64 dp,.float .f64 ex,.int .i64 pa,.int .i64 de,.slice (some ⟨g,0,none⟩) n vc,.int .i64 nd,.int .i64 j] rfl rfl 247 #[.int .i64 0,.int .i64 0,.int .i64 0,.int .i64 0,.int .i64 0,.int .i64 0,.int .i64 0,.int .i64 0,.int .i64 0,.int .i64 0,.float .f64 0,.int .i64 0,.int .i64 0,.slice none 0 0,.int .i64 0,.int .i64 0] HT0.out (by kernel_rfl) rfl (by simp[Value.oneCell']) ?_
 obtain⟨HFr,hgr⟩:=row_end (cells:= #[.int .i64 rn,.int .i64 rp,.int .i64 sp,.int .i64 sd,.int .i64 ss,.int .i64 sh,.int .i64 an,.int .i64 aq,.int .i64 oc,.int .i64 dp,.float .f64 ex,.int .i64 pa,.int .i64 de,.slice (some ⟨g,0,none⟩) n vc,.int .i64 nd,.int .i64 j]) HT0.out;have HB:=qq (HB.out.grown hgr HB.out.size (fun k hk=>by injection hk with hk;omega))
 have hHeld:(fun w'=>Blk w' w1.heap.size #[an,aq,oc,dp,.float .f64 ex,pa,de,.slice (some ⟨g,0,none⟩) n vc]∧RegC w' g (j*6) ⟨rn,rp,⟨sp,sd,ss,sh⟩⟩) (w2.setRow (w.heap.size+1) #[.int .i64 rn,.int .i64 rp,.int .i64 sp,.int .i64 sd,.int .i64 ss,.int .i64 sh,.int .i64 an,.int .i64 aq,.int .i64 oc,.int .i64 dp,.float .f64 ex,.int .i64 pa,.int .i64 de,.slice (some ⟨g,0,none⟩) n vc,.int .i64 nd,.int .i64 j]):=⟨hHeld.1.heap' hgr.size (hgr.block _ hHeld.1.lt (fun e=>by injection e with e;omega)),hHeld.2.grown hgr (fun e=>by injection e with e;omega)⟩
 refine hK _ _ ⟨hHeld,?_⟩;simp only[Act.put,puts];clear hK hgr;have HFr:=qq HFr;generalize w2.setRow (w.heap.size+1) #[.int .i64 rn,.int .i64 rp,.int .i64 sp,.int .i64 sd,.int .i64 ss,.int .i64 sh,.int .i64 an,.int .i64 aq,.int .i64 oc,.int .i64 dp,.float .f64 ex,.int .i64 pa,.int .i64 de,.slice (some ⟨g,0,none⟩) n vc,.int .i64 nd,.int .i64 j]=w4 at*
 refine takeU (d:=some 7) 11 rfl rfl hHeld (fun w' hS'=>by have qA:=hS'.1.cell;obtain⟨c0,c1,c2,c3,c4,c5⟩:=hS'.2;dsimp only at c0 c1 c2 c3 c4 c5;clear hS';go_simp;(try rfl)) ?_;simp only[puts];refine takeU (d:=some 8) 12 rfl rfl hHeld (fun w' hS'=>by have qA:=hS'.1.cell;obtain⟨c0,c1,c2,c3,c4,c5⟩:=hS'.2;dsimp only at c0 c1 c2 c3 c4 c5;clear hS';go_simp;(try rfl)) ?_;simp only[puts]
 refine wpAnyH_done (by kernel_rfl) ?_ _;clear hHeld;obtain⟨q1,f1⟩:=HFr.out;go_wp2_with fail;exact bodyPost_ret (v:=.tuple #[.agg #[rn,rp,sp,sd,ss,sh,an,aq,oc,dp,.float .f64 ex,pa,de,.slice (some ⟨g,0,none⟩) n vc,nd,j],.bool true,.bool true]) (by simp[results,Tryz.results163,go_sem,q1,f1]) rfl ⟨_,_,_,rfl,HB.out⟩
theorem ltakes_of (L:SLoc) (S:Sto) (a:SAct) (va:Option Addr) (vc:Nat) (now:Nat) (ea:Int→Addr) (w:World) (hE:EnvS ea w) (h:StoreAt L S w) (hG:StoGood S) (hx:F64 a.ex) (hn64:F64 now) (hpa:0≤a.pa∧a.pa≤8):Calls Tryz.prog 167 #[.pointer (some ⟨L.sb,0,none⟩),.agg (actC a (.slice va a.regs.length vc)),flV now] w (Makes (.bool (lTakes S a now)) w):=by
 have HO:=qq (fun W hW=>scopeOpen_of a.an a.aq a.oc a.dp a.ex now hx hn64 ea W hW);have HE:=qq hE;have H:=qq h;have HP:=qq (fun W hW (hp:pGet S (a.pa - 1)=none)=>part_no L S (a.pa - 1) W hW hp);have HPy:=qq (fun W hW p (hp:pGet S (a.pa - 1)=some p)=>part_yes L S (a.pa - 1) p W hW hG.parts hp);unfold lTakes;obtain⟨an,aq,oc,dp,ex,pa,de,rs⟩:=a;dsimp only[actC] at*
 obtain⟨o,ho⟩:∃o,o=ctxOpen an aq oc dp ex now:=⟨_,rfl⟩
 rw[←ho] at HO⊢;obtain⟨n,hn⟩:∃n,n=rs.length:=⟨_,rfl⟩
 rw[←hn] at⊢;clear hE h hG hx hn64 ho hn
 -- the rest, once the participant does not stand in the way
 have fin:∀(x:Bool),x=true→(x && (o && decide (de=0∧n<6)))=(o && decide (de=0∧n<6)):=fun x h=>by rw[h];simp
 obtain⟨d,hd⟩:∃d,d=(de==0):=⟨_,rfl⟩
 obtain⟨t,ht⟩:∃t,t=decide (n<6):=⟨_,rfl⟩
 have hdt:decide (de=0∧n<6)=(d && t):=by rw[hd,ht,Bool.eq_iff_iff];simp
 rw[hdt];rw[hdt] at fin;have e1:=hd.symm;have e2:decide ((n:Int)<6)=t:=by rw[ht,Bool.eq_iff_iff];simp;omega
 have e3:=ht.symm;clear hd ht hdt;have done:∀W,Below w.heap.size w W→True:=fun _ _=>trivial
 clear done;by_cases h0:pa≤0
 · have d0:decide (0<pa)=false:=decide_eq_false (by omega);rw[decide_eq_true h0,Bool.true_or,Bool.true_and];clear h0 hpa fin HP HPy
   cases o
   all_goals (try cases d)
   all_goals
    go_enter Tryz.func167,Tryz.ntmps167;go_wp2_with fail;refine(HO.out _ (HE.out.below (by go_grown))).mono ?_;rintro e w1 ⟨rfl,hb1⟩;have q:=((Blk.fresh w #[an,aq,oc,dp,.float .f64 ex,pa,de,.slice va n vc] 51 _ rfl).below hb1).cell;go_wp2_with fail;go_ret;exact⟨ret_bool (by simp),below_then (by go_grown) hb1⟩
 · have d0:decide (0<pa)=true:=decide_eq_true (by omega);rw[decide_eq_false h0,Bool.false_or];have hp1:0≤pa:=by omega
   have hp8:pa≤8:=hpa.2;have hp0:0<pa:=by omega
   clear h0 hpa fin
   cases hp:pGet S (pa - 1) with
   | none=>
    have HP1:=qq (fun W hW=>HP.out W hW hp);rw[show(false && (o && (d && t)))=false by simp];clear HP HPy hp;go_enter Tryz.func167,Tryz.ntmps167;go_wp2_with fail;refine(HP1.out _ (H.out.below (by go_grown))).mono ?_;rintro e w1 ⟨rfl,hb1⟩;go_wp2_with fail;go_ret;exact⟨rfl,below_then (below_then (by go_grown) hb1) (by go_grown)⟩
   | some p=>
    have HP1:=qq (fun W hW=>HPy.out W hW p hp);have HW:=qq (fun W=>lworks_of p.seat W);dsimp only;obtain⟨k,hk⟩:∃k,k=lWorks p.seat:=⟨_,rfl⟩
    rw[←hk] at HW⊢;obtain⟨pan,paq,prg,⟨sp,sd,ss,sh⟩⟩:=p;dsimp only[partA,seatV] at*;clear HP HPy hp hk
    cases k
    case false=>
     rw[Bool.false_and];go_enter Tryz.func167,Tryz.ntmps167;go_wp2_with fail;refine(HP1.out _ (H.out.below (by go_grown))).mono ?_;rintro e w1 ⟨rfl,hb1⟩;go_wp2_with fail;refine(HW.out _).mono ?_;rintro e w2 ⟨rfl,hb2⟩;go_wp2_with fail;go_ret;exact⟨rfl,below_then (below_then (by go_grown) hb1) (below_then (by go_grown) hb2)⟩
    rw[Bool.true_and]
    cases o
    all_goals (try cases d)
    all_goals
     go_enter Tryz.func167,Tryz.ntmps167;go_wp2_with fail;refine(HP1.out _ (H.out.below (by go_grown))).mono ?_;rintro e w1 ⟨rfl,hb1⟩;have B1:Below w.heap.size w w1:=below_then (by go_grown) hb1;have HA:=qq ((Blk.fresh w #[an,aq,oc,dp,.float .f64 ex,pa,de,.slice va n vc] 51 _ rfl).below hb1);clear hb1;go_wp2_with fail;refine(HW.out _).mono ?_;rintro e w2 ⟨rfl,hb2⟩
     have HA2:=qq ((HA.out.alloc _).below hb2);have B2:Below w.heap.size w w2:=below_then (B1.alloc B1.size _) hb2;have q:=HA2.out.cell;clear hb2 B1;go_wp2_with fail;refine(HO.out _ (HE.out.below B2)).mono ?_;rintro e w3 ⟨rfl,hb3⟩;clear q;have q:=(HA2.out.below hb3).cell;go_wp2_with fail;go_ret;exact⟨ret_bool (by simp),below_then B2 hb3⟩
end Go.Proofs.YtlkajejbfojkeaaGreatDoor
