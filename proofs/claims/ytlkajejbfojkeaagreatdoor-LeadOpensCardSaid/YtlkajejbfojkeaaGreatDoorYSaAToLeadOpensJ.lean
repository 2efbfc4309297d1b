/- SaA, LwA, LwLOp, FlOpen, OpF, Sent, Errs, WrapS, LaidS, OpG, LeadOpensL, JoinS, LeadOpensJ -/
import Derived.Test.YtlkajejbfojkeaaGreatDoorWRfcD
import Derived.Test.YtlkajejbfojkeaaGreatDoorWTabPlainToMovB
import Derived.Test.YtlkajejbfojkeaaGreatDoorYLoFToTo17
import Derived.ChangeArms
import Derived.Deep.Slices
import Derived.Laws.Cover2
import Derived.ProofKit
import Derived.LaidMore
import Derived.OpenShut
import Derived.Stop.Joined
import Derived.Carry
import Derived.SevenTiedAt
import Derived.HandedShaped
import Derived.Shelf.Vars
import Derived.Lib.LaidTab
import Derived.Lay
import Derived.JoinedOf
set_option linter.unusedSimpArgs false
set_option linter.unusedVariables false
set_option maxRecDepth 100000
set_option maxHeartbeats 16000000
namespace Go.Proofs.YtlkajejbfojkeaaGreatDoor
open Go.RowKit
attribute [local go_sem] store_float
theorem same13 (b c:Nat) (C:Array Value) (hC:∀k,k<13→∃x:Int,C[k]? =some (.int .i64 x)) (w:World) (h1:Blk w b C) (h2:Blk w c C):Calls Tryz.prog 118 #[.slice (some ⟨b,0,none⟩) 13 13,.slice (some ⟨c,0,none⟩) 13 13] w (Makes (.bool true) w):=by
 have H1:=qq h1;have H2:=qq h2;have HC:=qq hC;clear h1 h2 hC;go_enter Tryz.func118,Tryz.ntmps118;go_wp2_with fail;go_loopw [13] (fun i wr=>∃k:Nat,k≤13∧i=.int .i64 (k:Nat)∧Below w.heap.size w wr) (fun i _=>13 - (intOf i).toNat)
 case atStart=>exact⟨0,by omega,by go_num,Below.refl _ _⟩
 case round=>
  obtain⟨k,hk,rfl,hB⟩:=hrel;by_cases hlt:k<13
  · obtain⟨x,hx⟩:=HC.out k hlt;have c1:wr.cell? ⟨b,k,none⟩=some (.int .i64 x):=((H1.out.below hB).cell k).trans hx;have c2:wr.cell? ⟨c,k,none⟩=some (.int .i64 x):=((H2.out.below hB).cell k).trans hx;clear hx;have hki:(k:Int)<13:=by omega
    have hk0:(0:Int)≤(k:Int):=by omega
    go_wp2_with fail;go_quiet (fail)
    all_goals go_wp2_with fail
    all_goals (go_roundw<;>first | exact⟨k+1,by omega,by go_num,below_then hB ⟨rfl,rfl,rfl,Nat.le_refl _,fun _ _=>rfl⟩⟩ | (simp[intOf];omega))
  · obtain rfl:k=13:=by omega
    go_wp2_with fail;go_ret;exact⟨rfl,hB⟩
theorem rsame14_self (f:SFact) (hx:F64 f.ex) (w:World):Calls Tryz.prog 35 #[factV f,factV f] w (Makes (.bool true) w):=by
 have HN:=qq (fun W=>numbers_of f W);have HR:=qq (fun W=>rbits_of f.ex hx W);obtain⟨k,an,aq,rg,nd,pt,pr,oc,dp,pa,st,hw,de,ex⟩:=f;dsimp only[factV,factC] at*
 have HIL:=qq (show ∀jj,jj<13→∃x:Int,(#[.int .i64 k,.int .i64 an,.int .i64 aq,.int .i64 rg,.int .i64 nd,.int .i64 pt,.int .i64 pr,.int .i64 oc,.int .i64 dp,.int .i64 pa,.int .i64 st,.int .i64 hw,.int .i64 de]:Array Value)[jj]? =some (.int .i64 x) from fun jj hk=>by
   have h:jj=0∨jj=1∨jj=2∨jj=3∨jj=4∨jj=5∨jj=6∨jj=7∨jj=8∨jj=9∨jj=10∨jj=11∨jj=12:=by omega
   rcases h with rfl | rfl | rfl | rfl | rfl | rfl | rfl | rfl | rfl | rfl | rfl | rfl | rfl<;>exact⟨_,rfl⟩)
 clear hx;go_enter Tryz.func35,Tryz.ntmps35;go_wp2_with fail;have HB:Hid (Below w.heap.size w (World.drew ((w.alloc (.cells #[k,an,aq,rg,nd,pt,pr,oc,dp,pa,st,hw,de,.float .f64 ex] 42)).alloc (.cells #[k,an,aq,rg,nd,pt,pr,oc,dp,pa,st,hw,de,.float .f64 ex] 42)))):=qq (by go_grown)
 refine wp_region_held_drew (S:=fun w'=>Blk w' w.heap.size #[k,an,aq,rg,nd,pt,pr,oc,dp,pa,st,hw,de,.float .f64 ex]∧Blk w' (w.heap.size+1) #[k,an,aq,rg,nd,pt,pr,oc,dp,pa,st,hw,de,.float .f64 ex]) (by kernel_rfl) (⟨((Blk.fresh w #[k,an,aq,rg,nd,pt,pr,oc,dp,pa,st,hw,de,.float .f64 ex] 42 _ rfl).alloc _).drew,(Blk.fresh (w.alloc (.cells #[k,an,aq,rg,nd,pt,pr,oc,dp,pa,st,hw,de,.float .f64 ex] 42)) #[.int .i64 k,.int .i64 an,.int .i64 aq,.int .i64 rg,.int .i64 nd,.int .i64 pt,.int .i64 pr,.int .i64 oc,.int .i64 dp,.int .i64 pa,.int .i64 st,.int .i64 hw,.int .i64 de,.float .f64 ex] 42 (w.heap.size+1) (by simp)).drew⟩) (fun hHeld=> ?_)
 generalize(World.drew ((w.alloc (.cells #[k,an,aq,rg,nd,pt,pr,oc,dp,pa,st,hw,de,.float .f64 ex] 42)).alloc (.cells #[k,an,aq,rg,nd,pt,pr,oc,dp,pa,st,hw,de,.float .f64 ex] 42)))=w0 at*;refine takeU (d:=some 5) 0 rfl rfl hHeld (fun w' hS'=>by have qA:=hS'.1.cell;have qB:=hS'.2.cell;clear hS';go_simp;(try rfl)) ?_;simp only[puts]
 refine takeU (d:=some 7) 2 rfl rfl hHeld (fun w' hS'=>by have qA:=hS'.1.cell;have qB:=hS'.2.cell;clear hS';go_simp;(try rfl)) ?_;simp only[puts];refine wpAnyH_call (d:=some 6) 1 119 _ _ [.agg #[k,an,aq,rg,nd,pt,pr,oc,dp,pa,st,hw,de,.float .f64 ex]] rfl rfl (by kernel_rfl) rfl (enters_of Tryz.func119 (by kernel_rfl) rfl) (by rfl) (by rfl) ?_;refine(HN.out _).mono ?_;rintro e w5 ⟨g1,rfl,hg1,hb5⟩
 have HB:=qq (below_then HB.out hb5);have HG1:=qq hg1;have hHeld:(fun w'=>Blk w' w.heap.size #[k,an,aq,rg,nd,pt,pr,oc,dp,pa,st,hw,de,.float .f64 ex]∧Blk w' (w.heap.size+1) #[k,an,aq,rg,nd,pt,pr,oc,dp,pa,st,hw,de,.float .f64 ex]) _:=⟨hHeld.1.below hb5,hHeld.2.below hb5⟩
 refine⟨_,rfl,_,fun _ h=>h,hHeld,fun hHeld=> ?_⟩;simp only[Act.put,puts];clear hb5 hg1;refine wpAnyH_call (d:=some 8) 3 119 _ _ [.agg #[k,an,aq,rg,nd,pt,pr,oc,dp,pa,st,hw,de,.float .f64 ex]] rfl rfl (by kernel_rfl) rfl (enters_of Tryz.func119 (by kernel_rfl) rfl) (by rfl) (by rfl) ?_;refine(HN.out _).mono ?_;rintro e w6 ⟨g2,rfl,hg2,hb6⟩
 have HB:=qq (below_then HB.out hb6);have HG1:=qq (HG1.out.below hb6);have HG2:=qq hg2;have hHeld:(fun w'=>Blk w' w.heap.size #[k,an,aq,rg,nd,pt,pr,oc,dp,pa,st,hw,de,.float .f64 ex]∧Blk w' (w.heap.size+1) #[k,an,aq,rg,nd,pt,pr,oc,dp,pa,st,hw,de,.float .f64 ex]) _:=⟨hHeld.1.below hb6,hHeld.2.below hb6⟩
 refine⟨_,rfl,_,fun _ h=>h,hHeld,fun hHeld=> ?_⟩;simp only[Act.put,puts];clear hb6 hg2;refine wpAnyH_call (d:=some 9) 4 118 _ _ [.slice (some ⟨g1,0,none⟩) 13 13,.slice (some ⟨g2,0,none⟩) 13 13] rfl rfl (by kernel_rfl) rfl (enters_of Tryz.func118 (by kernel_rfl) rfl) (by rfl) (by rfl) ?_;refine(same13 g1 g2 _ HIL.out _ HG1.out HG2.out).mono ?_;rintro e w7 ⟨rfl,hb7⟩
 have HB:=qq (below_then HB.out hb7);have hHeld:(fun w'=>Blk w' w.heap.size #[k,an,aq,rg,nd,pt,pr,oc,dp,pa,st,hw,de,.float .f64 ex]∧Blk w' (w.heap.size+1) #[k,an,aq,rg,nd,pt,pr,oc,dp,pa,st,hw,de,.float .f64 ex]) _:=⟨hHeld.1.below hb7,hHeld.2.below hb7⟩
 refine⟨_,rfl,_,fun _ h=>h,hHeld,fun hHeld=> ?_⟩;simp only[Act.put,puts];clear hb7;refine takeU (d:=some 10) 5 rfl rfl hHeld (fun w' hS'=>by have qA:=hS'.1.cell;have qB:=hS'.2.cell;clear hS';go_simp;(try rfl)) ?_;simp only[puts];refine takeU (d:=some 11) 6 rfl rfl hHeld (fun w' hS'=>by have qA:=hS'.1.cell;have qB:=hS'.2.cell;clear hS';go_simp;(try rfl)) ?_;simp only[puts]
 refine takeU (d:=some 12) 7 rfl rfl hHeld (fun w' hS'=>by have qA:=hS'.1.cell;have qB:=hS'.2.cell;clear hS';go_simp;(try rfl)) ?_;simp only[puts];refine takeU (d:=some 14) 9 rfl rfl hHeld (fun w' hS'=>by have qA:=hS'.1.cell;have qB:=hS'.2.cell;clear hS';go_simp;(try rfl)) ?_;simp only[puts]
 refine takeU (d:=some 15) 10 rfl rfl hHeld (fun w' hS'=>by have qA:=hS'.1.cell;have qB:=hS'.2.cell;clear hS';go_simp;(try rfl)) ?_;simp only[puts];refine wpAnyH_call (d:=some 13) 8 120 _ _ [.float .f64 ex] rfl rfl (by kernel_rfl) rfl (enters_of Tryz.func120 (by kernel_rfl) rfl) (by rfl) (by rfl) ?_;refine(HR.out _).mono ?_;rintro e w8 ⟨rfl,rfl⟩;refine⟨_,rfl,_,fun _ h=>h,hHeld,fun hHeld=> ?_⟩
 simp only[Act.put,puts];refine wpAnyH_call (d:=some 16) 11 120 _ _ [.float .f64 ex] rfl rfl (by kernel_rfl) rfl (enters_of Tryz.func120 (by kernel_rfl) rfl) (by rfl) (by rfl) ?_;refine(HR.out _).mono ?_;rintro e w8 ⟨rfl,rfl⟩;refine⟨_,rfl,_,fun _ h=>h,hHeld,fun hHeld=> ?_⟩;simp only[Act.put,puts]
 refine takeU (d:=some 17) 12 rfl rfl hHeld (fun w' hS'=>by have qA:=hS'.1.cell;have qB:=hS'.2.cell;clear hS';go_simp;(try rfl)) ?_;simp only[puts];refine takeU (d:=some 18) 13 rfl rfl hHeld (fun w' hS'=>by have qA:=hS'.1.cell;have qB:=hS'.2.cell;clear hS';go_simp;(try rfl)) ?_;simp only[puts]
 refine takeU (d:=some 4) 14 rfl rfl hHeld (fun w' hS'=>by have qA:=hS'.1.cell;have qB:=hS'.2.cell;clear hS';go_simp;(try rfl)) ?_;simp only[puts];refine wpAnyH_done (by kernel_rfl) ?_ _;clear hHeld;go_wp2_with fail;go_ret;exact⟨ret_bool (by simp),HB.out⟩
theorem msgNe (mk mf mt man maq mrg mpt mpr mco:Int) (w:World):(binOp .neq 81 (.agg #[mk,mf,mt,man,maq,mrg,mpt,mpr,mco]) (.agg #[mk,mf,mt,man,maq,mrg,mpt,mpr,mco])).run Tryz.prog w=.ok (.bool false) w:=by
 go_simp
theorem rsame16_self (a b c d : Option Addr) (ac bc cc dc : Nat) (fs : List SFact) (ms : List SMsg) (wk : Int) (w : World) (h1 : ReadFacts w (.slice a fs.length ac) fs) (h2 : ReadFacts w (.slice b fs.length bc) fs) (h3 : ReadMsgs w (.slice c ms.length cc) ms) (h4 : ReadMsgs w (.slice d ms.length dc) ms) (hx : ∀ f ∈ fs, F64 f.ex) (hl1 : fs.length ≤ 1000) (hl2 : ms.length ≤ 1000) :
    Calls Tryz.prog 42 #[.agg #[.slice a fs.length ac,.slice c ms.length cc,wk],.agg #[.slice b fs.length bc,.slice d ms.length dc,wk]] w (Makes (.bool true) w):=by
 have G1:∀(v:Option Addr) (vc:Nat),ReadFacts w (.slice v fs.length vc) fs→Hid (∀k,k<fs.length→∃f,fs[k]? =some f∧∃b off,v=some ⟨b,off,none⟩∧b<w.heap.size∧FactAt w b (off+k*14) f):=fun v vc h=>qq (fun k hk=>by
   obtain⟨a',cap',hv,hr⟩:=h;obtain⟨b,off,ha,hb,hf⟩:=hr (by intro e;rw[e] at hk;simp at hk);simp only[Value.slice.injEq,true_and] at hv;exact⟨fs[k],List.getElem?_eq_getElem hk,b,off,by rw[hv.1,ha],hb,hf k hk⟩)
 have G2:∀(v:Option Addr) (vc:Nat),ReadMsgs w (.slice v ms.length vc) ms→Hid (∀k,k<ms.length→∃f,ms[k]? =some f∧∃b off,v=some ⟨b,off,none⟩∧b<w.heap.size∧MsgC w b (off+k*9) f):=fun v vc h=>qq (fun k hk=>by
   obtain⟨a',cap',hv,hr⟩:=h;obtain⟨b,off,ha,hb,hf⟩:=hr (by intro e;rw[e] at hk;simp at hk);simp only[Value.slice.injEq,true_and] at hv;exact⟨ms[k],List.getElem?_eq_getElem hk,b,off,by rw[hv.1,ha],hb,hf k hk⟩)
 have H1:=G1 a ac h1;have H2:=G1 b bc h2;have H3:=G2 c cc h3;have H4:=G2 d dc h4;have HS:=qq (fun f hf W=>rsame14_self f (hx f hf) W);clear h1 h2 h3 h4 hx G1 G2;obtain⟨n,hn⟩:∃n,n=fs.length:=⟨_,rfl⟩
 obtain⟨m,hm⟩:∃m,m=ms.length:=⟨_,rfl⟩
 rw[←hn] at H1 H2 hl1⊢;rw[←hm] at H3 H4 hl2⊢;clear hn hm;have B0:Below w.heap.size w ((w.alloc (.cells #[.slice a n ac,.slice c m cc,wk] 95)).alloc (.cells #[.slice b n bc,.slice d m dc,wk] 95)):=by go_grown
 have HA:=qq ((Blk.fresh w #[.slice a n ac,.slice c m cc,wk] 95 _ rfl).alloc (.cells #[.slice b n bc,.slice d m dc,wk] 95));have HB:=qq (Blk.fresh (w.alloc (.cells #[.slice a n ac,.slice c m cc,wk] 95)) #[.slice b n bc,.slice d m dc,wk] 95 (w.heap.size+1) (by simp));have HB0:=qq B0;clear B0;go_enter Tryz.func42,Tryz.ntmps42;go_wp2_with fail
 generalize hW0:((w.alloc (.cells #[.slice a n ac,.slice c m cc,wk] 95)).alloc (.cells #[.slice b n bc,.slice d m dc,wk] 95))=w0 at*;clear hW0;go_loopw [33] (fun i wr=>∃k:Nat,k≤n∧i=.int .i64 (k:Nat)∧Below w0.heap.size w0 wr) (fun i _=>n - (intOf i).toNat)
 case atStart=>exact⟨0,by omega,by first | rfl | go_num,Below.refl _ _⟩
 case round=>
  obtain⟨k,hk,rfl,hB⟩:=hrel;have qa:=(HA.out.below hB).cell;have qb:=(HB.out.below hB).cell;have B1:Below w.heap.size w wr:=below_then HB0.out hB;by_cases hlt:k<n
  · obtain⟨f,hf,b1,o1,rfl,hl1',hc1⟩:=H1.out k hlt;obtain⟨f',hf',b2,o2,rfl,hl2',hc2⟩:=H2.out k hlt;obtain rfl:f=f':=by rw[hf] at hf';injection hf'
    have HSf:=qq (fun W=>HS.out f (List.mem_of_getElem? hf) W);have c1:=hc1.below B1 hl1';have c2:=hc2.below B1 hl2';have hki:(k:Int)<(n:Int):=by omega
    have hk0:(0:Int)≤(k:Int):=by omega
    clear hf hf' hc1 hc2;obtain⟨fk,fan,faq,frg,fnd,fpt,fpr,foc,fdp,fpa,fst,fhw,fde,ex⟩:=f;dsimp only[factV,factC] at HSf;obtain⟨p0,p1,p2,p3,p4,p5,p6,p7,p8,p9,p10,p11,p12,p13⟩:=c1;obtain⟨r0,r1,r2,r3,r4,r5,r6,r7,r8,r9,r10,r11,r12,r13⟩:=c2;dsimp only at p0 p1 p2 p3 p4 p5 p6 p7 p8 p9 p10 p11 p12 p13 r0 r1 r2 r3 r4 r5 r6 r7 r8 r9 r10 r11 r12 r13;have q0:=qa 0;have q1:=qb 0;clear qa qb;go_wp2_with fail
    go_still_tail 10,(by kernel_rfl)
    change wpList _ _ _ _ _ (World.drew _);go_wp2_with (go_at_call 35;refine(HSf.out _).mono ?_;rintro e w5 ⟨rfl,hb5⟩)
    all_goals (go_roundw<;>first | exact⟨k+1,by omega,by go_num,below_then hB (below_then (by go_grown) hb5)⟩ | (simp[intOf];omega))
  · obtain rfl:k=n:=by omega
    have HA2:=qq (HA.out.below hB);have HB2:=qq (HB.out.below hB);have q1:=qa 1;have HB1:=qq B1;clear hB qb hlt hk;go_wp2_with fail;clear qa q1;obtain⟨w1,rfl⟩:∃w1:World,w1=wr:=⟨_,rfl⟩
    clear B1;go_loopw [52] (fun i wr=>∃k:Nat,k≤m∧i=.int .i64 (k:Nat)∧Below w1.heap.size w1 wr) (fun i _=>m - (intOf i).toNat)
    case atStart=>exact⟨0,by omega,by first | rfl | go_num,Below.refl _ _⟩
    case round=>
     obtain⟨k,hk,rfl,hB⟩:=hrel;have qa:=(HA2.out.below hB).cell;have qb:=(HB2.out.below hB).cell;have B1:Below w.heap.size w wr:=below_then HB1.out hB;by_cases hlt:k<m
     · obtain⟨f,hf,b1,o1,rfl,hl1',hc1⟩:=H3.out k hlt;obtain⟨f',hf',b2,o2,rfl,hl2',hc2⟩:=H4.out k hlt;obtain rfl:f=f':=by rw[hf] at hf';injection hf'
       have c1:=hc1.below B1 hl1';have c2:=hc2.below B1 hl2';have hki:(k:Int)<(m:Int):=by omega
       have hk0:(0:Int)≤(k:Int):=by omega
       clear hf hf' hc1 hc2;obtain⟨mk,mf,mt,man,maq,mrg,mpt,mpr,mco⟩:=f;obtain⟨p0,p1,p2,p3,p4,p5,p6,p7,p8⟩:=c1;obtain⟨r0,r1,r2,r3,r4,r5,r6,r7,r8⟩:=c2;dsimp only at p0 p1 p2 p3 p4 p5 p6 p7 p8 r0 r1 r2 r3 r4 r5 r6 r7 r8;have hne:=msgNe mk mf mt man maq mrg mpt mpr mco;have q1:=qa 1;have q2:=qb 1;clear qa qb;go_wp2_with fail;go_quiet (fail)
       all_goals go_wp2_with fail
       all_goals (go_roundw<;>first | exact⟨k+1,by omega,by go_num,below_then hB ⟨rfl,rfl,rfl,Nat.le_refl _,fun _ _=>rfl⟩⟩ | (simp[intOf];omega))
     · obtain rfl:k=m:=by omega
       go_wp2_with fail;go_ret;exact⟨rfl,B1⟩
theorem num_of (n:Int) (h:0≤n∧n≤14) (ea:Int→Addr) (w:World) (hE:EnvS ea w):Calls Tryz.prog 20 #[errOf ea n] w (Makes (.int .i64 n) w):=by
 unfold errOf;split
 · rename_i h0;subst h0;exact num_nil w
 · exact num_some n (by omega) ea w hE.e
theorem below_draws (w:World) (n:Nat):Below w.heap.size w (w.drewN n):=⟨rfl,rfl,rfl,Nat.le_refl _,fun _ _=>rfl⟩
theorem law_lopen (node:Int) (v:Value) (fs:List SFact) (oc:Int) (now lasts:Nat) (pt cn cq co cd:Int) (cx:Nat) (ea:Int→Addr) (w:World) (hE:EnvS ea w) (hR:ReadFacts w v fs) (hF:∀f∈fs,F64 f.ex) (hn1:F64 now) (hn2:F64 lasts) (hn3:F64 cx):Calls Tryz.prog 17 #[.int .i64 node,v,.agg #[oc,.float .f64 now,.float .f64 lasts,pt,cn,cq,co,cd,.float .f64 cx]] w (Makes (.bool true) w):=by
 obtain⟨av,cap,rfl,hrow⟩:=hR;have hR':∀W,Below w.heap.size w W→ReadFacts W (.slice av fs.length cap) fs:=fun W hW=>⟨av,cap,rfl,fun hn=>by
   obtain⟨b,off,rfl,hb,hf⟩:=hrow hn;exact⟨b,off,rfl,Nat.lt_of_lt_of_le hb hW.size,fun j hj=>(hf j hj).below hW hb⟩⟩
 have HE:=qq hE;have HAL:=qq (fun W (hW:Below w.heap.size w W)=>alive17b_of ea W (hE.below hW));have HBN:=qq (fun W (hW:Below w.heap.size w W) h=>built17_no node _ fs ea W (hE.below hW) (hR' W hW) h);have HBY:=qq (fun W (hW:Below w.heap.size w W) h1 h2=>built17_yes node _ fs ea W (hE.below hW) (hR' W hW) hF h1 h2);have HGD:=qq (fun h=>splay_good (node:=node) h fs)
 obtain⟨n,hn⟩:∃n,n=fs.length:=⟨_,rfl⟩
 obtain⟨S,hS⟩:∃S,S=splay node fs:=⟨_,rfl⟩
 rw[←hn] at HBN HBY⊢;rw[←hS] at HBY HGD;have HDo:=qq (fun L W h1 h2 h3=>lopen_of L S oc now lasts ea W h1 h2 h3 hn1 hn2);have HRd:=qq (fun R W h1 h2=>ropen_of R S oc now lasts W h1 h2 hn1 hn2);have HNe:=qq (fun L W h1 h2 h3=>lnest_of L S pt ⟨cn,cq,co,cd,cx⟩ ea W h1 h2 h3 hn3);have HRn:=qq (fun R W h1 h2=>rnest_of R S pt ⟨cn,cq,co,cd,cx⟩ W h1 h2 hn3)
 have HFT1:=qq (fun(h:StoGood S)=>lOpen_fits h oc now lasts);have HFT2:=qq (fun(h:StoGood S)=>lNest_fits h pt ⟨cn,cq,co,cd,cx⟩);have hex1:=lOpen_ex (S:=S) (oc:=oc) (now:=now) (lasts:=lasts);have hln1:=lOpen_len (S:=S) (oc:=oc) (now:=now) (lasts:=lasts);have hnm1:=lOpen_num (S:=S) (oc:=oc) (now:=now) (lasts:=lasts);have hc1:=lOpen_c64 (S:=S) (oc:=oc) (now:=now) (lasts:=lasts)
 have hex2:=lNest_ex (S:=S) (pt:=pt) (c:=⟨cn,cq,co,cd,cx⟩) hn3;have hln2:=lNest_len (S:=S) (pt:=pt) (c:=⟨cn,cq,co,cd,cx⟩);have hnm2:=lNest_num (S:=S) (pt:=pt) (c:=⟨cn,cq,co,cd,cx⟩);have hc2:=lNest_c64 (S:=S) (pt:=pt) (c:=⟨cn,cq,co,cd,cx⟩) hn3;obtain⟨r1,hr1⟩:∃r,r=lOpen S oc now lasts:=⟨_,rfl⟩
 obtain⟨r2,hr2⟩:∃r,r=lNest S pt ⟨cn,cq,co,cd,cx⟩:=⟨_,rfl⟩
 rw[←hr1] at HDo HRd HFT1 hex1 hln1 hnm1 hc1;rw[←hr2] at HNe HRn HFT2 hex2 hln2 hnm2 hc2;obtain⟨⟨fs1,ms1,wk1⟩,⟨u1,v1,x1,y1,z1⟩,en1⟩:=r1;obtain⟨⟨fs2,ms2,wk2⟩,⟨u2,v2,x2,y2,z2⟩,en2⟩:=r2;dsimp only at HDo HRd HFT1 hex1 hln1 hnm1 hc1 HNe HRn HFT2 hex2 hln2 hnm2 hc2;have HNM1:=qq (fun W hW=>num_of en1 hnm1 ea W hW);have HNM2:=qq (fun W hW=>num_of en2 hnm2 ea W hW)
 have HEX1:=qq hex1;have HEX2:=qq hex2;have HC1:=qq hc1;have HC2:=qq hc2;have HLN1:=qq hln1;have HLN2:=qq hln2;clear hr1 hr2 hex1 hln1 hnm1 hex2 hln2 hnm2 hc1 hc2 hn1 hn2 hn3;unfold OpenEnds at HDo HNe;unfold ROpenEnds at HRd HRn;dsimp only at HDo HNe HRd HRn;have hnn1:(en1 !=en1)=false:=by simp
 have hnn2:(en2 !=en2)=false:=by simp
 have hpar:(pt.tmod 2==0)=true∨(pt.tmod 2==0)=false:=by cases pt.tmod 2==0<;>simp
 clear hE hR' hrow hF hn hS;by_cases hok:(0≤node∧node≤3)∧n≤60
 case neg=>
  go_enter Tryz.func17,Tryz.ntmps17;go_wp2_with fail;refine(HAL.out _ (by go_grown)).mono ?_;rintro e w1 ⟨rfl,hb1⟩;have B1:Below w.heap.size w w1:=below_then (by go_grown) hb1;go_wp2_with fail;refine(HBN.out _ B1 hok).mono ?_;rintro e w2 ⟨rfl,hb2⟩;have B2:Below w.heap.size w w2:=below_then B1 hb2;go_wp2_with fail;go_ret;exact⟨rfl,B2⟩
 obtain⟨hnd,hln⟩:=hok;have HGS:=qq (HGD.out hnd);obtain⟨T1,hfit1⟩:=HFT1.out HGS.out;obtain⟨T2,hfit2⟩:=HFT2.out HGS.out;have HFT1:=qq hfit1;have HFT2:=qq hfit2;clear hfit1 hfit2;go_enter Tryz.func17,Tryz.ntmps17;go_wp2_with fail;refine(HAL.out _ (by go_grown)).mono ?_;rintro e w1 ⟨rfl,hb1⟩;have B1:Below w.heap.size w w1:=below_then (by go_grown) hb1
 have HX:=qq ((Blk.fresh w #[oc,.float .f64 now,.float .f64 lasts,pt,cn,cq,co,cd,.float .f64 cx] 143 _ rfl).below hb1);clear hb1;go_wp2_with fail;refine(HBY.out _ B1 hnd hln).mono ?_;rintro e w2 ⟨L,R,rfl,hB⟩;have B2:Below w.heap.size w w2:=below_then B1 hB.be;have HNL:Hid (∀k∈L.foot,w1.heap.size≤k):=qq hB.nl;have HW1:=qq (show w1.heap.size≤w2.heap.size from hB.be.size)
 have HB1:=qq B1;have HB12:=qq hB.be;have HX:=qq (HX.out.below hB.be);have HL:=qq hB.st;have HR:=qq hB.rs;clear hB B1;obtain⟨lHX,qHX,fHX⟩:=HX.out;go_wp2_with fail;clear qHX fHX lHX;refine(HDo.out L _ (HE.out.below (below_then B2 (Below.refl w2.heap.size w2))) (HL.out.below (Below.refl w2.heap.size w2)) HGS.out).mono ?_;rintro e w211 ⟨a1,c1,b1,d1,rfl,hR1,hb11⟩
 have HAP1:Hid (∀k,sliceBlock (.slice a1 fs1.length c1)=some k→k∉L.foot):=qq (fun k hk hl=>by have h1:=hR1.ff k hk;have h2:=HL.out.lt k hl;omega);have HX:=qq (HX.out.below hb11);have HB:=qq (below_then (Below.refl w2.heap.size w2) hb11);have z11:=HB.out.size;clear hb11;have HF1:=qq (show ReadFacts _ (.slice a1 fs1.length c1) fs1 from hR1.f)
 have HM1:=qq (show ReadMsgs _ (.slice b1 ms1.length d1) ms1 from hR1.m)
 (try clear hR1)
 have o1HX:=HX.out.lt;obtain⟨lHX,qHX,fHX⟩:=HX.out;go_wp2_with fail;clear qHX fHX lHX;refine(HRd.out R _ (HR.out.below (bel_alloc (bel_alloc HB.out _) _)) HGS.out).mono ?_;rintro e w212 ⟨fv1,mv1,rfl,hf1,hm1,hb12⟩;have hf2:=hf1;have hm2:=hm1;obtain⟨a1r,c1r,rfl,_⟩:=hf2;obtain⟨b1r,d1r,rfl,_⟩:=hm2;have HX:=qq (((HX.out.alloc _).alloc _).below hb12)
 have HF1:=qq ((HF1.out.below (by go_grown)).below hb12);have HM1:=qq ((HM1.out.below (by go_grown)).below hb12);have K1:=qq (((Blk.fresh _ _ _ (w211.heap.size) (by simp)).alloc _).below hb12);have K2:=qq ((Blk.fresh _ _ _ (w211.heap.size+1) (by simp)).below hb12);have HB:=qq (below_then (bel_alloc (bel_alloc HB.out _) _) hb12);have z12:=HB.out.size;clear hb12
 have HF1r:=qq (show ReadFacts _ (.slice a1r fs1.length c1r) fs1 from hf1);have HM1r:=qq (show ReadMsgs _ (.slice b1r ms1.length d1r) ms1 from hm1)
 (try clear hf1 hm1)
 have o3HX:=HX.out.lt;have o3K1:=K1.out.lt;have o3K2:=K2.out.lt;obtain⟨lHX,qHX,fHX⟩:=HX.out;obtain⟨lK1,qK1,fK1⟩:=K1.out;obtain⟨lK2,qK2,fK2⟩:=K2.out;go_wp2_with fail;clear qHX fHX lHX qK1 fK1 lK1 qK2 fK2 lK2
 refine reg_start (fun w'=>Blk w' _ _∧ReadFacts w' _ _∧ReadMsgs w' _ _∧Blk w' _ _∧Blk w' _ _∧ReadFacts w' _ _∧ReadMsgs w' _ _∧Blk w' _ _∧Blk w' _ _∧Below w2.heap.size w2 w') (by kernel_rfl) ⟨((HX.out.alloc _).alloc _).drew,(HF1.out.below (by go_grown)),(HM1.out.below (by go_grown)),((K1.out.alloc _).alloc _).drew,((K2.out.alloc _).alloc _).drew,(HF1r.out.below (by go_grown)),(HM1r.out.below (by go_grown)),((Blk.fresh _ _ _ (w212.heap.size) (by simp)).alloc _).drew,(Blk.fresh _ _ _ (w212.heap.size+1) (by simp)).drew,(bel_drew (bel_alloc (bel_alloc HB.out _) _))⟩ ?_
 rintro w213 hHeld;obtain⟨HX',HF1',HM1',K1',K2',HF1r',HM1r',K3',K4',HB'⟩:=id hHeld;have HX:=qq HX';have HF1:=qq HF1';have HM1:=qq HM1';have K1:=qq K1';have K2:=qq K2';have HF1r:=qq HF1r';have HM1r:=qq HM1r';have K3:=qq K3';have K4:=qq K4';have HB:=qq HB';clear HX' HF1' HM1' K1' K2' HF1r' HM1r' K3' K4' HB';have z13:=HB.out.size
 refine takeM (d:=some 57) 0 rfl rfl hHeld (fun w' hS'=>by have qA:=hS'.2.2.2.1.cell;clear hS';go_simp;(try rfl)) ?_;simp only[puts];refine takeM (d:=some 59) 2 rfl rfl hHeld (fun w' hS'=>by have qA:=hS'.2.2.2.2.2.2.2.1.cell;clear hS';go_simp;(try rfl)) ?_;simp only[puts];refine one_M 1 (by kernel_rfl) ?_
 refine wpOp_call (d:=some 58) 1 70 _ _ [.agg #[.slice a1 fs1.length c1,.slice b1 ms1.length d1,wk1]] rfl rfl rfl (enters_of Tryz.func70 (by kernel_rfl) rfl) (by rfl) (by rfl) ?_;refine(told17_of a1 b1 c1 ms1.length d1 fs1 wk1 _ HF1.out (by have:=HLN1.out.1;omega)).mono ?_;rintro e w214 ⟨a1t,c1t,rfl,hft,hb14⟩;clear hHeld;have HX:=qq (HX.out.below hb14);have HF1:=qq (HF1.out.below hb14)
 have HM1:=qq (HM1.out.below hb14);have K1:=qq (K1.out.below hb14);have K2:=qq (K2.out.below hb14);have HF1r:=qq (HF1r.out.below hb14);have HM1r:=qq (HM1r.out.below hb14);have K3:=qq (K3.out.below hb14);have K4:=qq (K4.out.below hb14);have HB:=qq (below_then HB.out hb14);have z14:=HB.out.size;clear hb14;have HF1t:=qq (hft)
 (try clear hft)
 refine ret_S ⟨HX.out,HF1.out,HM1.out,K1.out,K2.out,HF1r.out,HM1r.out,K3.out,K4.out,HB.out⟩ (fun hHeld=> ?_);simp only[puts];refine one_M 3 (by kernel_rfl) ?_
 refine wpOp_call (d:=some 60) 3 42 _ _ [.agg #[.slice a1t fs1.length c1t,.slice b1 ms1.length d1,wk1],.agg #[.slice a1r fs1.length c1r,.slice b1r ms1.length d1r,wk1]] rfl rfl rfl (enters_of Tryz.func42 (by kernel_rfl) rfl) (by rfl) (by rfl) ?_
 refine(rsame16_self a1t a1r b1 b1r c1t c1r d1 d1r fs1 ms1 wk1 _ HF1t.out HF1r.out HM1.out HM1r.out HEX1.out (by have:=HLN1.out.1;omega) (by have:=HLN1.out.2;omega)).mono ?_;rintro e w215 ⟨rfl,hb15⟩;clear hHeld;have HX:=qq (HX.out.below hb15);have HF1:=qq (HF1.out.below hb15);have HM1:=qq (HM1.out.below hb15);have K1:=qq (K1.out.below hb15);have K2:=qq (K2.out.below hb15)
 have HF1r:=qq (HF1r.out.below hb15);have HM1r:=qq (HM1r.out.below hb15);have K3:=qq (K3.out.below hb15);have K4:=qq (K4.out.below hb15);have HF1t:=qq (HF1t.out.below hb15);have HB:=qq (below_then HB.out hb15);have z15:=HB.out.size;clear hb15;refine ret_S ⟨HX.out,HF1.out,HM1.out,K1.out,K2.out,HF1r.out,HM1r.out,K3.out,K4.out,HB.out⟩ (fun hHeld=> ?_);simp only[puts]
 refine takeM (d:=some 61) 4 rfl rfl hHeld (fun w' _=>by go_simp;(try rfl)) ?_;simp only[puts];refine takeM (d:=some 62) 5 rfl rfl hHeld (fun w' _=>by go_simp;(try rfl)) ?_;simp only[puts];refine takeM (d:=some 63) 6 rfl rfl hHeld (fun w' hS'=>by have qA:=hS'.2.2.2.2.1.cell;clear hS';go_simp;(try rfl)) ?_;simp only[puts]
 refine takeM (d:=some 64) 7 rfl rfl hHeld (fun w' hS'=>by have qA:=hS'.2.2.2.2.2.2.2.2.1.cell;clear hS';go_simp;(try rfl)) ?_;simp only[puts];refine one_M 8 (by kernel_rfl) ?_;refine wpOp_call (d:=some 65) 8 79 _ _ [.agg #[u1,v1,x1,y1,.float .f64 z1],.agg #[u1,v1,x1,y1,.float .f64 z1]] rfl rfl rfl (enters_of Tryz.func79 (by kernel_rfl) rfl) (by rfl) (by rfl) ?_
 refine(rsame09_self u1 v1 x1 y1 z1 _ HC1.out).mono ?_;rintro e w216 ⟨rfl,hb16⟩;clear hHeld;have HX:=qq (HX.out.below hb16);have HF1:=qq (HF1.out.below hb16);have HM1:=qq (HM1.out.below hb16);have K1:=qq (K1.out.below hb16);have K2:=qq (K2.out.below hb16);have HF1r:=qq (HF1r.out.below hb16);have HM1r:=qq (HM1r.out.below hb16);have K3:=qq (K3.out.below hb16);have K4:=qq (K4.out.below hb16)
 have HF1t:=qq (HF1t.out.below hb16);have HB:=qq (below_then HB.out hb16);have z16:=HB.out.size;clear hb16;refine ret_S ⟨HX.out,HF1.out,HM1.out,K1.out,K2.out,HF1r.out,HM1r.out,K3.out,K4.out,HB.out⟩ (fun hHeld=> ?_);simp only[puts];refine takeM (d:=some 66) 9 rfl rfl hHeld (fun w' _=>by go_simp;(try rfl)) ?_;simp only[puts]
 refine takeM (d:=some 67) 10 rfl rfl hHeld (fun w' _=>by go_simp;(try rfl)) ?_;simp only[puts];refine takeM (d:=some 68) 11 rfl rfl hHeld (fun w' _=>by go_simp;(try rfl)) ?_;simp only[puts];refine takeM (d:=some 69) 12 rfl rfl hHeld (fun w' _=>by go_simp;(try rfl)) ?_;simp only[puts];refine takeM (d:=some 71) 14 rfl rfl hHeld (fun w' _=>by go_simp;(try rfl)) ?_;simp only[puts]
 refine one_M 13 (by kernel_rfl) ?_;refine wpOp_call (d:=some 70) 13 20 _ _ [errOf ea en1] rfl rfl rfl (enters_of Tryz.func20 (by kernel_rfl) rfl) (by rfl) (by rfl) ?_;refine(HNM1.out _ (HE.out.below (below_then B2 HB.out))).mono ?_;rintro e w217 ⟨rfl,hb17⟩;clear hHeld;have HX:=qq (HX.out.below hb17);have HF1:=qq (HF1.out.below hb17);have HM1:=qq (HM1.out.below hb17)
 have K1:=qq (K1.out.below hb17);have K2:=qq (K2.out.below hb17);have HF1r:=qq (HF1r.out.below hb17);have HM1r:=qq (HM1r.out.below hb17);have K3:=qq (K3.out.below hb17);have K4:=qq (K4.out.below hb17);have HF1t:=qq (HF1t.out.below hb17);have HB:=qq (below_then HB.out hb17);have z17:=HB.out.size;clear hb17
 refine ret_S ⟨HX.out,HF1.out,HM1.out,K1.out,K2.out,HF1r.out,HM1r.out,K3.out,K4.out,HB.out⟩ (fun hHeld=> ?_);simp only[puts];refine takeM (d:=some 72) 15 rfl rfl hHeld (fun w' _=>by go_simp;(try rfl)) ?_;simp only[puts];refine takeM (d:=some 73) 16 rfl rfl hHeld (fun w' _=>by go_simp;(try rfl)) ?_;simp only[puts];refine doneM (by kernel_rfl) ?_ _;clear hHeld;obtain⟨lHX,qHX,fHX⟩:=HX.out
 obtain⟨lK1,qK1,fK1⟩:=K1.out;obtain⟨lK2,qK2,fK2⟩:=K2.out;obtain⟨lK3,qK3,fK3⟩:=K3.out;obtain⟨lK4,qK4,fK4⟩:=K4.out;go_wp2_with fail;clear qHX fHX lHX qK1 fK1 lK1 qK2 fK2 lK2 qK3 fK3 lK3 qK4 fK4 lK4;refine(HNe.out L _ (HE.out.below (below_then B2 HB.out)) (HL.out.below HB.out) HGS.out).mono ?_;rintro e w218 ⟨a2,c2,b2,d2,rfl,hR2,hb18⟩;have hz9:w2.heap.size≤w217.heap.size:=by omega
 have HAP2:Hid (∀k,sliceBlock (.slice a2 fs2.length c2)=some k→k∉L.foot):=qq (fun k hk hl=>by have h1:=hR2.ff k hk;have h2:=HL.out.lt k hl;omega);have HX:=qq (HX.out.below hb18);have HF1:=qq (HF1.out.below hb18);have K1:=qq (K1.out.below hb18);have HB:=qq (below_then HB.out hb18);have z18:=HB.out.size;clear hb18;have HF2:=qq (show ReadFacts _ (.slice a2 fs2.length c2) fs2 from hR2.f)
 have HM2:=qq (show ReadMsgs _ (.slice b2 ms2.length d2) ms2 from hR2.m)
 (try clear hR2)
 have o5HX:=HX.out.lt;have o5K1:=K1.out.lt;obtain⟨lHX,qHX,fHX⟩:=HX.out;obtain⟨lK1,qK1,fK1⟩:=K1.out;go_wp2_with fail;clear qHX fHX lHX qK1 fK1 lK1;refine(HRn.out R _ (HR.out.below (bel_alloc (bel_alloc HB.out _) _)) HGS.out).mono ?_;rintro e w219 ⟨fv2,mv2,rfl,hf2,hm2,hb19⟩;have hf2:=hf2;have hm2:=hm2;obtain⟨a2r,c2r,rfl,_⟩:=hf2;obtain⟨b2r,d2r,rfl,_⟩:=hm2
 have HX:=qq (((HX.out.alloc _).alloc _).below hb19);have HF1:=qq ((HF1.out.below (by go_grown)).below hb19);have K1:=qq (((K1.out.alloc _).alloc _).below hb19);have HF2:=qq ((HF2.out.below (by go_grown)).below hb19);have HM2:=qq ((HM2.out.below (by go_grown)).below hb19);have K5:=qq (((Blk.fresh _ _ _ (w218.heap.size) (by simp)).alloc _).below hb19)
 have K6:=qq ((Blk.fresh _ _ _ (w218.heap.size+1) (by simp)).below hb19);have HB:=qq (below_then (bel_alloc (bel_alloc HB.out _) _) hb19);have z19:=HB.out.size;clear hb19;have HF2r:=qq (show ReadFacts _ (.slice a2r fs2.length c2r) fs2 from hf2);have HM2r:=qq (show ReadMsgs _ (.slice b2r ms2.length d2r) ms2 from hm2)
 (try clear hf2 hm2)
 have o7HX:=HX.out.lt;have o7K1:=K1.out.lt;have o7K5:=K5.out.lt;have o7K6:=K6.out.lt;obtain⟨lHX,qHX,fHX⟩:=HX.out;obtain⟨lK1,qK1,fK1⟩:=K1.out;obtain⟨lK5,qK5,fK5⟩:=K5.out;obtain⟨lK6,qK6,fK6⟩:=K6.out;go_wp2_with fail;clear qHX fHX lHX qK1 fK1 lK1 qK5 fK5 lK5 qK6 fK6 lK6
 refine reg_start (fun w'=>Blk w' _ _∧ReadFacts w' _ _∧Blk w' _ _∧ReadFacts w' _ _∧ReadMsgs w' _ _∧Blk w' _ _∧Blk w' _ _∧ReadFacts w' _ _∧ReadMsgs w' _ _∧Blk w' _ _∧Blk w' _ _∧Below w2.heap.size w2 w') (by kernel_rfl) ⟨((HX.out.alloc _).alloc _).drew,(HF1.out.below (by go_grown)),((K1.out.alloc _).alloc _).drew,(HF2.out.below (by go_grown)),(HM2.out.below (by go_grown)),((K5.out.alloc _).alloc _).drew,((K6.out.alloc _).alloc _).drew,(HF2r.out.below (by go_grown)),(HM2r.out.below (by go_grown)),((Blk.fresh _ _ _ (w219.heap.size) (by simp)).alloc _).drew,(Blk.fresh _ _ _ (w219.heap.size+1) (by simp)).drew,(bel_drew (bel_alloc (bel_alloc HB.out _) _))⟩ ?_
 rintro w220 hHeld;obtain⟨HX',HF1',K1',HF2',HM2',K5',K6',HF2r',HM2r',K7',K8',HB'⟩:=id hHeld;have HX:=qq HX';have HF1:=qq HF1';have K1:=qq K1';have HF2:=qq HF2';have HM2:=qq HM2';have K5:=qq K5';have K6:=qq K6';have HF2r:=qq HF2r';have HM2r:=qq HM2r';have K7:=qq K7';have K8:=qq K8';have HB:=qq HB';clear HX' HF1' K1' HF2' HM2' K5' K6' HF2r' HM2r' K7' K8' HB';have z20:=HB.out.size
 refine takeM (d:=some 94) 0 rfl rfl hHeld (fun w' hS'=>by have qA:=hS'.2.2.2.2.2.1.cell;clear hS';go_simp;(try rfl)) ?_;simp only[puts];refine takeM (d:=some 96) 2 rfl rfl hHeld (fun w' hS'=>by have qA:=hS'.2.2.2.2.2.2.2.2.2.1.cell;clear hS';go_simp;(try rfl)) ?_;simp only[puts];refine one_M 1 (by kernel_rfl) ?_
 refine wpOp_call (d:=some 95) 1 70 _ _ [.agg #[.slice a2 fs2.length c2,.slice b2 ms2.length d2,wk2]] rfl rfl rfl (enters_of Tryz.func70 (by kernel_rfl) rfl) (by rfl) (by rfl) ?_;refine(told17_of a2 b2 c2 ms2.length d2 fs2 wk2 _ HF2.out (by have:=HLN2.out.1;omega)).mono ?_;rintro e w221 ⟨a2t,c2t,rfl,hft,hb21⟩;clear hHeld;have HX:=qq (HX.out.below hb21);have HF1:=qq (HF1.out.below hb21)
 have K1:=qq (K1.out.below hb21);have HF2:=qq (HF2.out.below hb21);have HM2:=qq (HM2.out.below hb21);have K5:=qq (K5.out.below hb21);have K6:=qq (K6.out.below hb21);have HF2r:=qq (HF2r.out.below hb21);have HM2r:=qq (HM2r.out.below hb21);have K7:=qq (K7.out.below hb21);have K8:=qq (K8.out.below hb21);have HB:=qq (below_then HB.out hb21);have z21:=HB.out.size;clear hb21;have HF2t:=qq (hft)
 (try clear hft)
 refine ret_S ⟨HX.out,HF1.out,K1.out,HF2.out,HM2.out,K5.out,K6.out,HF2r.out,HM2r.out,K7.out,K8.out,HB.out⟩ (fun hHeld=> ?_);simp only[puts];refine one_M 3 (by kernel_rfl) ?_
 refine wpOp_call (d:=some 97) 3 42 _ _ [.agg #[.slice a2t fs2.length c2t,.slice b2 ms2.length d2,wk2],.agg #[.slice a2r fs2.length c2r,.slice b2r ms2.length d2r,wk2]] rfl rfl rfl (enters_of Tryz.func42 (by kernel_rfl) rfl) (by rfl) (by rfl) ?_
 refine(rsame16_self a2t a2r b2 b2r c2t c2r d2 d2r fs2 ms2 wk2 _ HF2t.out HF2r.out HM2.out HM2r.out HEX2.out (by have:=HLN2.out.1;omega) (by have:=HLN2.out.2;omega)).mono ?_;rintro e w222 ⟨rfl,hb22⟩;clear hHeld;have HX:=qq (HX.out.below hb22);have HF1:=qq (HF1.out.below hb22);have K1:=qq (K1.out.below hb22);have HF2:=qq (HF2.out.below hb22);have HM2:=qq (HM2.out.below hb22)
 have K5:=qq (K5.out.below hb22);have K6:=qq (K6.out.below hb22);have HF2r:=qq (HF2r.out.below hb22);have HM2r:=qq (HM2r.out.below hb22);have K7:=qq (K7.out.below hb22);have K8:=qq (K8.out.below hb22);have HF2t:=qq (HF2t.out.below hb22);have HB:=qq (below_then HB.out hb22);have z22:=HB.out.size;clear hb22
 refine ret_S ⟨HX.out,HF1.out,K1.out,HF2.out,HM2.out,K5.out,K6.out,HF2r.out,HM2r.out,K7.out,K8.out,HB.out⟩ (fun hHeld=> ?_);simp only[puts];refine takeM (d:=some 98) 4 rfl rfl hHeld (fun w' _=>by go_simp;(try rfl)) ?_;simp only[puts];refine takeM (d:=some 99) 5 rfl rfl hHeld (fun w' _=>by go_simp;(try rfl)) ?_;simp only[puts]
 refine takeM (d:=some 100) 6 rfl rfl hHeld (fun w' hS'=>by have qA:=hS'.2.2.2.2.2.2.1.cell;clear hS';go_simp;(try rfl)) ?_;simp only[puts];refine takeM (d:=some 101) 7 rfl rfl hHeld (fun w' hS'=>by have qA:=hS'.2.2.2.2.2.2.2.2.2.2.1.cell;clear hS';go_simp;(try rfl)) ?_;simp only[puts];refine one_M 8 (by kernel_rfl) ?_
 refine wpOp_call (d:=some 102) 8 79 _ _ [.agg #[u2,v2,x2,y2,.float .f64 z2],.agg #[u2,v2,x2,y2,.float .f64 z2]] rfl rfl rfl (enters_of Tryz.func79 (by kernel_rfl) rfl) (by rfl) (by rfl) ?_;refine(rsame09_self u2 v2 x2 y2 z2 _ HC2.out).mono ?_;rintro e w223 ⟨rfl,hb23⟩;clear hHeld;have HX:=qq (HX.out.below hb23);have HF1:=qq (HF1.out.below hb23);have K1:=qq (K1.out.below hb23)
 have HF2:=qq (HF2.out.below hb23);have HM2:=qq (HM2.out.below hb23);have K5:=qq (K5.out.below hb23);have K6:=qq (K6.out.below hb23);have HF2r:=qq (HF2r.out.below hb23);have HM2r:=qq (HM2r.out.below hb23);have K7:=qq (K7.out.below hb23);have K8:=qq (K8.out.below hb23);have HF2t:=qq (HF2t.out.below hb23);have HB:=qq (below_then HB.out hb23);have z23:=HB.out.size;clear hb23
 refine ret_S ⟨HX.out,HF1.out,K1.out,HF2.out,HM2.out,K5.out,K6.out,HF2r.out,HM2r.out,K7.out,K8.out,HB.out⟩ (fun hHeld=> ?_);simp only[puts];refine takeM (d:=some 103) 9 rfl rfl hHeld (fun w' _=>by go_simp;(try rfl)) ?_;simp only[puts];refine takeM (d:=some 104) 10 rfl rfl hHeld (fun w' _=>by go_simp;(try rfl)) ?_;simp only[puts]
 refine takeM (d:=some 105) 11 rfl rfl hHeld (fun w' _=>by go_simp;(try rfl)) ?_;simp only[puts];refine takeM (d:=some 106) 12 rfl rfl hHeld (fun w' _=>by go_simp;(try rfl)) ?_;simp only[puts];refine takeM (d:=some 108) 14 rfl rfl hHeld (fun w' _=>by go_simp;(try rfl)) ?_;simp only[puts];refine one_M 13 (by kernel_rfl) ?_
 refine wpOp_call (d:=some 107) 13 20 _ _ [errOf ea en2] rfl rfl rfl (enters_of Tryz.func20 (by kernel_rfl) rfl) (by rfl) (by rfl) ?_;refine(HNM2.out _ (HE.out.below (below_then B2 HB.out))).mono ?_;rintro e w224 ⟨rfl,hb24⟩;clear hHeld;have HX:=qq (HX.out.below hb24);have HF1:=qq (HF1.out.below hb24);have K1:=qq (K1.out.below hb24);have HF2:=qq (HF2.out.below hb24)
 have HM2:=qq (HM2.out.below hb24);have K5:=qq (K5.out.below hb24);have K6:=qq (K6.out.below hb24);have HF2r:=qq (HF2r.out.below hb24);have HM2r:=qq (HM2r.out.below hb24);have K7:=qq (K7.out.below hb24);have K8:=qq (K8.out.below hb24);have HF2t:=qq (HF2t.out.below hb24);have HB:=qq (below_then HB.out hb24);have z24:=HB.out.size;clear hb24
 refine ret_S ⟨HX.out,HF1.out,K1.out,HF2.out,HM2.out,K5.out,K6.out,HF2r.out,HM2r.out,K7.out,K8.out,HB.out⟩ (fun hHeld=> ?_);simp only[puts];refine takeM (d:=some 109) 15 rfl rfl hHeld (fun w' _=>by go_simp;(try rfl)) ?_;simp only[puts];refine takeM (d:=some 110) 16 rfl rfl hHeld (fun w' _=>by go_simp;(try rfl)) ?_;simp only[puts];refine doneM (by kernel_rfl) ?_ _;clear hHeld
 rcases hpar with hpar | hpar
 · skip;have HFI:=qq (fit17_of L S (.slice a1 fs1.length c1) fs1 ea w _ HE.out (below_then B2 HB.out) (fun k hk=>Nat.le_trans HB1.out.size (HNL.out k hk)) (HL.out.below HB.out) HGS.out HF1.out HAP1.out HEX1.out (by have:=HLN1.out.1;omega));rw[HFT1.out] at HFI;have HBE:=qq (below_then B2 HB.out);obtain⟨lHX,qHX,fHX⟩:=HX.out;obtain⟨lK1,qK1,fK1⟩:=K1.out;obtain⟨lK5,qK5,fK5⟩:=K5.out
   obtain⟨lK6,qK6,fK6⟩:=K6.out;obtain⟨lK7,qK7,fK7⟩:=K7.out;obtain⟨lK8,qK8,fK8⟩:=K8.out;go_wp2_with fail;clear qHX fHX lHX qK1 fK1 lK1 qK5 fK5 lK5 qK6 fK6 lK6 qK7 fK7 lK7 qK8 fK8 lK8;refine HFI.out.mono ?_;rintro e w90 ⟨rfl,hs⟩;obtain⟨L4,hL4,hS4,hg4⟩:=hs;have B14:Below w.heap.size w w90:=HBE.out.trans (hg4.below (fun k hk=>Nat.le_trans HB1.out.size (HNL.out k hk)) HBE.out.size);clear hg4 hS4
   go_wp2_with fail;go_ret;exact⟨rfl,B14⟩
 · skip;have HFI:=qq (fit17_of L S (.slice a2 fs2.length c2) fs2 ea w _ HE.out (below_then B2 HB.out) (fun k hk=>Nat.le_trans HB1.out.size (HNL.out k hk)) (HL.out.below HB.out) HGS.out HF2.out HAP2.out HEX2.out (by have:=HLN2.out.1;omega));rw[HFT2.out] at HFI;have HBE:=qq (below_then B2 HB.out);obtain⟨lHX,qHX,fHX⟩:=HX.out;obtain⟨lK1,qK1,fK1⟩:=K1.out;obtain⟨lK5,qK5,fK5⟩:=K5.out
   obtain⟨lK6,qK6,fK6⟩:=K6.out;obtain⟨lK7,qK7,fK7⟩:=K7.out;obtain⟨lK8,qK8,fK8⟩:=K8.out;go_wp2_with fail;clear qHX fHX lHX qK1 fK1 lK1 qK5 fK5 lK5 qK6 fK6 lK6 qK7 fK7 lK7 qK8 fK8 lK8;refine HFI.out.mono ?_;rintro e w90 ⟨rfl,hs⟩;obtain⟨L4,hL4,hS4,hg4⟩:=hs;have B14:Below w.heap.size w w90:=HBE.out.trans (hg4.below (fun k hk=>Nat.le_trans HB1.out.size (HNL.out k hk)) HBE.out.size);clear hg4 hS4
   go_wp2_with fail;go_ret;exact⟨rfl,B14⟩
open Go.ChangeShapes Go.WideShapes Go.ChangeAt Go.WideMaps Go.WideElems Go.RowKit Go.Joins
theorem trod_f64 {H:Type} {P:Program} {w:World} {t:TypeId} {fuel:Nat} {base:Nat} {enc:TypeId×Value→H} {spare:Nat→Bool} {held:Bool} {v:Value} {x:DataW H×List MemPlace} (ht:P.underlying t=some (.float .f64)) (h:DataW.trod enc P w base spare held fuel t [v]=some x):∃b,v=.float .f64 b∧F64 b:=by
 cases fuel with
 | zero=>simp[DataW.trod] at h
 | succ n=>
  unfold DataW.trod at h;rw[ht] at h;split at h<;>simp_all
  rename_i k k' b he
  subst he;simpa[Lit.wf,F64] using h.1.2
open Go.RowKit Go.Deep Go.ChangeShapes Go.WideShapes Go.ChangeAt Go.WideMaps Go.WideElems
theorem fact_list_of {α:Type} {C:Nat→α→Prop}:∀n,(∀i,i<n→∃o,C i o)→∃l:List α,l.length=n∧∀i (h:i<l.length),C i l[i]
 | 0,_=>⟨[],rfl,fun i h=>absurd h (by simp)⟩
 | n+1,h=>by
  obtain⟨l,hl,hc⟩:=fact_list_of n (fun i hi=>h i (by omega));obtain⟨o,ho⟩:=h n (by omega);refine⟨l ++ [o],by simp[hl],fun i hi=> ?_⟩;by_cases hlt:i<l.length
  · rw[List.getElem_append_left hlt];exact hc i hlt
  · have:i=n:=by simp at hi;omega
    subst this;rw[List.getElem_append_right (by omega)];simpa[hl] using ho
theorem open_facts {H:Type} {enc:TypeId×Value→H} {W:World} {a0:Option Addr} {len cap:Nat} {d:DataW H} {p:List MemPlace} {sp:Nat→Bool} (h:DataW.Trod enc Tryz.prog W 0 sp true 22 (.slice a0 len cap) d p):∃fs,ReadFacts W (.slice a0 len cap) fs∧∀f∈fs,F64 f.ex:=by
 obtain⟨fuel,hf⟩:=h;rcases open_slice Tryz.underlying22 hf with⟨hcs,hx⟩ | ⟨a,len',cap',m,n,D,Pl,hcs,hb,hl,hm,hmm,hx,hall⟩
 · simp[Value.cells] at hcs;obtain⟨rfl,rfl,rfl⟩:=hcs;exact⟨[],⟨none,0,rfl,fun h=>absurd rfl h⟩,by simp⟩
 · simp[Value.cells] at hcs;obtain⟨rfl,rfl,rfl⟩:=hcs;have hlm:len≤m:=by rw[hmm];split<;>omega
   have each:∀i,i<len→∃o:SFact,W.cell? (a.add (i*14))=some (.int .i64 o.k)∧W.cell? (a.add (i*14+1))=some (.int .i64 o.an)∧W.cell? (a.add (i*14+2))=some (.int .i64 o.aq)∧W.cell? (a.add (i*14+3))=some (.int .i64 o.rg)∧W.cell? (a.add (i*14+4))=some (.int .i64 o.nd)∧W.cell? (a.add (i*14+5))=some (.int .i64 o.pt)∧W.cell? (a.add (i*14+6))=some (.int .i64 o.pr)∧W.cell? (a.add (i*14+7))=some (.int .i64 o.oc)∧W.cell? (a.add (i*14+8))=some (.int .i64 o.dp)∧W.cell? (a.add (i*14+9))=some (.int .i64 o.pa)∧W.cell? (a.add (i*14+10))=some (.int .i64 o.st)∧W.cell? (a.add (i*14+11))=some (.int .i64 o.hw)∧W.cell? (a.add (i*14+12))=some (.int .i64 o.de)∧W.cell? (a.add (i*14+13))=some (.float .f64 o.ex)∧F64 o.ex:=by
    intro i hi;obtain⟨cs',h1,h2⟩:=hall i (by omega);rw[show Tryz.prog.cellsOf 39=14 by kernel_rfl] at h1;obtain⟨_,hlen,hcell⟩:=World.cells?_some h1;obtain⟨xs,k,hk,hxy,_,hxl,hfs⟩:=DataW.trod_struct Tryz.underlying39 h2
    match xs,hxl,cs',hlen with
    | [y0,y1,y2,y3,y4,y5,y6,y7,y8,y9,y10,y11,y12],_,[v0,v1,v2,v3,v4,v5,v6,v7,v8,v9,v10,v11,v12,v13],_=>
     have g0:=hfs 0 _ rfl;have g1:=hfs 1 _ rfl;have g2:=hfs 2 _ rfl;have g3:=hfs 3 _ rfl;have g4:=hfs 4 _ rfl;have g5:=hfs 5 _ rfl;have g6:=hfs 6 _ rfl;have g7:=hfs 7 _ rfl;have g8:=hfs 8 _ rfl;have g9:=hfs 9 _ rfl;have g10:=hfs 10 _ rfl;have g11:=hfs 11 _ rfl;have g12:=hfs 12 _ rfl
     simp[show Tryz.prog.cellsOf 3=1 by kernel_rfl,show Tryz.prog.cellsOf 37=1 by kernel_rfl,show Tryz.prog.cellsOf 36=2 by kernel_rfl] at g0 g1 g2 g3 g4 g5 g6 g7 g8 g9 g10 g11 g12;obtain⟨zs,k2,hk2,_,_,hzl,hgs⟩:=DataW.trod_struct Tryz.underlying36 g1
     match zs,hzl with
     | [z0,z1],_=>
      have ga:=hgs 0 _ rfl;have gb:=hgs 1 _ rfl;simp[show Tryz.prog.cellsOf 3=1 by kernel_rfl] at ga gb;obtain⟨n0,e0,_⟩:=DataW.trod_int Tryz.underlying3 g0;obtain⟨n1,e1,_⟩:=DataW.trod_int Tryz.underlying3 ga;obtain⟨n2,e2,_⟩:=DataW.trod_int Tryz.underlying3 gb;obtain⟨n3,e3,_⟩:=DataW.trod_int Tryz.underlying3 g2;obtain⟨n4,e4,_⟩:=DataW.trod_int Tryz.underlying3 g3
      obtain⟨n5,e5,_⟩:=DataW.trod_int Tryz.underlying3 g4;obtain⟨n6,e6,_⟩:=DataW.trod_int Tryz.underlying3 g5;obtain⟨n7,e7,_⟩:=DataW.trod_int Tryz.underlying3 g6;obtain⟨n8,e8,_⟩:=DataW.trod_int Tryz.underlying3 g7;obtain⟨n9,e9,_⟩:=DataW.trod_int Tryz.underlying3 g8;obtain⟨n10,e10,_⟩:=DataW.trod_int Tryz.underlying3 g9;obtain⟨n11,e11,_⟩:=DataW.trod_int Tryz.underlying3 g10
      obtain⟨n12,e12,_⟩:=DataW.trod_int Tryz.underlying3 g11;obtain⟨n13,e13,hf13⟩:=trod_f64 Tryz.underlying37 g12;simp only[List.cons.injEq,and_true] at e0;simp only[List.cons.injEq,and_true] at e1;simp only[List.cons.injEq,and_true] at e2;simp only[List.cons.injEq,and_true] at e3;simp only[List.cons.injEq,and_true] at e4;simp only[List.cons.injEq,and_true] at e5
      simp only[List.cons.injEq,and_true] at e6;simp only[List.cons.injEq,and_true] at e7;simp only[List.cons.injEq,and_true] at e8;simp only[List.cons.injEq,and_true] at e9;simp only[List.cons.injEq,and_true] at e10;simp only[List.cons.injEq,and_true] at e11;simp only[List.cons.injEq,and_true] at e12
      (try simp only[List.cons.injEq,and_true] at e13)
      subst e0 e1 e2 e3 e4 e5 e6 e7 e8 e9 e10 e11 e12 e13;have c0:=hcell 0 (by omega);have c1:=hcell 1 (by omega);have c2:=hcell 2 (by omega);have c3:=hcell 3 (by omega);have c4:=hcell 4 (by omega);have c5:=hcell 5 (by omega);have c6:=hcell 6 (by omega);have c7:=hcell 7 (by omega);have c8:=hcell 8 (by omega);have c9:=hcell 9 (by omega);have c10:=hcell 10 (by omega);have c11:=hcell 11 (by omega)
      have c12:=hcell 12 (by omega);have c13:=hcell 13 (by omega);rw[add_add] at c0 c1 c2 c3 c4 c5 c6 c7 c8 c9 c10 c11 c12 c13
      exact⟨⟨n0,n1,n2,n3,n4,n5,n6,n7,n8,n9,n10,n11,n12,n13⟩,by simpa using c0,by simpa using c1,by simpa using c2,by simpa using c3,by simpa using c4,by simpa using c5,by simpa using c6,by simpa using c7,by simpa using c8,by simpa using c9,by simpa using c10,by simpa using c11,by simpa using c12,by simpa using c13,hf13⟩
   obtain⟨fs,hlen,hc⟩:=fact_list_of len each;subst hlen;refine⟨fs,⟨some a,cap,rfl,fun hne=> ?_⟩,fun f hf=> ?_⟩
   · have h0:0<fs.length:=List.length_pos_iff.2 hne;have hs0:a.spot=none:=by simpa[Addr.add] using World.cell?_spot (hc 0 h0).1
     obtain⟨b,off,spot⟩:=a;have hsp:spot=none:=hs0;subst hsp;have hlt:=World.block_lt_of_cell? W _ (hc 0 h0).1;refine⟨b,off,rfl,by simpa[Addr.add] using hlt,fun i hi=> ?_⟩;obtain⟨c0,c1,c2,c3,c4,c5,c6,c7,c8,c9,c10,c11,c12,c13,_⟩:=hc i hi;simp only[Addr.add_lit] at c0 c1 c2 c3 c4 c5 c6 c7 c8 c9 c10 c11 c12 c13;exact⟨c0,c1,c2,c3,c4,c5,c6,c7,c8,c9,c10,c11,c12,c13⟩
   · obtain⟨j,hj,rfl⟩:=List.getElem_of_mem hf;exact(hc j hj).2.2.2.2.2.2.2.2.2.2.2.2.2.2
open Go.ChangeShapes Go.WideShapes Go.ChangeAt Go.WideMaps Go.WideElems Go.RowKit
theorem Tryz.own:ownKnob Tryz.prog.godebug=none:=by kernel_rfl
theorem Tryz.laidOut:laidOutB Tryz.prog=true:=by kernel_rfl
theorem starE : "*" ++ "errors.errorString" = "*errors.errorString" := by decide
theorem rowE (u : TypeId) (h : Tryz.prog.typeName? 3 u = some "*errors.errorString") : u = 387 :=
 typeName_ptr_named (nm := "errors.errorString") (by rw [starE]; kernel_rfl) (by kernel_rfl) (by decide) u (by rw [starE]; exact h)
theorem cellsE:Tryz.prog.cellsOf 410=1:=by kernel_rfl
theorem cellsS:Tryz.prog.cellsOf 9=1:=by kernel_rfl
structure LaidE where
 num:Int
 name:String
 g:Nat
 text:List UInt8
def LaidE.datum (x : LaidE) : String × DataW Unit := (x.name, .iface "*errors.errorString" (.ptr (.agg [.lit (.string x.text)])))
def LaidE.ok (x:LaidE):Prop:=Tryz.prog.globalNamed x.name=some x.g∧(Tryz.prog.globals[x.g]?).map (·.type)=some 26
theorem sentinels {W : World} : ∀ (L : List LaidE) (ps : List MemPlace), (L.map (·.num)).Nodup → (∀ x ∈ L, x.ok) → DataW.LaidVars Tryz.prog W (L.map LaidE.datum) ps → ps.Nodup →
    (∀b off,MemPlace.cell b off∈ps→(∃c t,W.heap[b]? =some (.cells c t (0,0)))∧∀u v,W.cell? ⟨b,off,none⟩=some (.iface u v)→Value.okWide Tryz.prog W .any 0 u v)→
    ∃ea:Int→Addr,(∀x∈L,ErrIs W x.g (ea x.num)∧MemPlace.cell (ea x.num).block (ea x.num).off∈ps)∧(∀x∈L,∀y∈L,ea x.num=ea y.num→x.num=y.num):=by
 intro L
 induction L with
 | nil=>intro ps _ _ _ _ _;exact⟨fun _=>⟨0,0,none⟩,fun x hx=>by simp at hx,fun x hx=>by simp at hx⟩
 | cons x L ih=>
  intro ps hnum hok h hnd hrows;obtain⟨g0,t0,cs0,f0,p0,q0,hg0,ht0,hv0,hd0,hrest,e0⟩:=h;have hx:=hok x (by simp);obtain rfl:=Option.some.inj (hx.1.symm.trans hg0);obtain rfl:=Option.some.inj (hx.2.symm.trans ht0);subst e0;obtain⟨l0⟩:=cs0;have ok0:∀u v,l0=[.iface u v]→Value.okWide Tryz.prog W .any 0 u v:=fun u v e=>by
   subst e;exact(hrows x.g 0 (by simp[MemPlace.row])).2 u v (by simpa using World.var?_cell hg0 hv0 0)
  obtain⟨a0,s0,rfl,hc0,hs0,hz0,rfl⟩:=errorString_of_trod Tryz.underlying26 rowE Tryz.underlying387 Tryz.underlying410 rfl rfl Tryz.underlying9 cellsE cellsS hd0 ok0;have hn2:=List.nodup_append.1 hnd;obtain⟨ea,h1,h2⟩:=ih q0 (by simpa using(List.nodup_cons.1 hnum).2) (fun y hy=>hok y (by simp[hy])) hrest hn2.2.1 (fun b off hb=>hrows b off (by simp[hb]))
  have hne:∀y∈L,y.num≠x.num:=fun y hy he=>(List.nodup_cons.1 hnum).1 (by
    have:=List.mem_map_of_mem (f:=LaidE.num) hy;rw[he] at this;exact this)
  have hin:MemPlace.cell a0.block a0.off∈MemPlace.row ⟨x.g,0,none⟩ #[Value.iface 387 (.pointer (some a0))].size ++MemPlace.row a0 1:=by simp[MemPlace.row]
  have hcx:ErrIs W x.g a0:=by
   have:=World.var?_cell hg0 hv0 0;simpa[ErrIs] using this
  refine⟨fun m=>if m=x.num then a0 else ea m,fun y hy=> ?_,fun y hy z hz he=> ?_⟩
  · rcases List.mem_cons.1 hy with e | hy'
    · subst e;simp only[if_true];exact⟨hcx,List.mem_append_left _ hin⟩
    · simp only[if_neg (hne y hy')];exact⟨(h1 y hy').1,List.mem_append_right _ (h1 y hy').2⟩
  · rcases List.mem_cons.1 hy with e | hy'<;>rcases List.mem_cons.1 hz with e' | hz'
    · rw[e,e']
    · simp only[e,if_true,if_neg (hne z hz')] at he;have hz2:=(h1 z hz').2;rw[←he] at hz2;exact absurd rfl (hn2.2.2 _ hin _ hz2)
    · simp only[e',if_true,if_neg (hne y hy')] at he;have hy2:=(h1 y hy').2;rw[he] at hy2;exact absurd rfl (hn2.2.2 _ hin _ hy2)
    · simp only[if_neg (hne y hy'),if_neg (hne z hz')] at he;exact h2 y hy' z hz' he
section frame
variable {H:Type} {enc:TypeId×Value→H}
theorem trodAll_below {W W' : World} (hb : Below W.heap.size W W') : ∀ (ts : List TypeId) (vs : List Value) (ds : List (DataW H)) (ps : List MemPlace), (∀ t ∈ ts, Tryz.prog.readableRec t = true ∧ t < Tryz.prog.types.size) →
    DataW.TrodAll enc Tryz.prog W 0 (fun _=>true) true ts vs ds ps→(∀x∈ps,x.block<W.heap.size)→DataW.TrodAll enc Tryz.prog W' 0 (fun b=>decide (b<W.heap.size)) true ts vs ds ps:=by
 intro ts
 induction ts with
 | nil=>
  intro vs ds ps _ h _;obtain⟨rfl,rfl,rfl⟩:=trodAll_nil h;exact trodAll_mk0
 | cons t ts ih=>
  intro vs ds ps hts h hlt;obtain⟨v,vs',d,ds',p,q,rfl,rfl,rfl,hd,hrest⟩:=trodAll_cons h;have h1:=Below.trod Tryz.laidOut (hts t (by simp)).1 (hts t (by simp)).2 hd hb (fun x hx=>hlt x (by simp[hx]));exact trodAll_cons_mk h1 (ih vs' ds' q (fun u hu=>hts u (by simp[hu])) hrest (fun x hx=>hlt x (by simp[hx])))
theorem trodAll_len {W:World} {base:Nat} {sp:Nat→Bool} {held:Bool}:∀{ts:List TypeId} {vs:List Value} {ds:List (DataW H)} {ps:List MemPlace},DataW.TrodAll enc Tryz.prog W base sp held ts vs ds ps→ds.length=ts.length:=by
 intro ts
 induction ts with
 | nil=>
  intro vs ds ps h;obtain⟨rfl,rfl,rfl⟩:=trodAll_nil h;rfl
 | cons t ts ih=>
  intro vs ds ps h;obtain⟨v,vs',d,ds',p,q,rfl,rfl,rfl,hd,hrest⟩:=trodAll_cons h;simp[ih hrest]
theorem frame_post {fn : Func} {s : ChangeSpec} {W W' : World} {args : Array Value} {ds gs : List (DataW H)} {before : List MemPlace}
    (hts:∀t∈fn.params.toList,Tryz.prog.readableRec t=true∧t<Tryz.prog.types.size) (hres:fn.resultTypes= #[4]) (hvars:s.vars=[])
    (hspec:∀ds:List (DataW H),ds.length=fn.params.toList.length→(s.fn H ds).results=[.lit (.bool true)]∧(s.fn H ds).args=ds∧(s.fn H ds).vars=[])
    (hW:DataW.Whole enc Tryz.prog fn.params.toList s.vars false W args.toList ds gs before) (hb:Below W.heap.size W W'):
    s.post enc Tryz.prog fn false true false false W args (.bool true) W':=by
 have hW':=hW;have hlt:=hW.lt;obtain⟨p,q,hA,hV,rfl,hfz,hnd⟩:=hW;rw[hvars] at hV;obtain⟨rfl,rfl⟩:gs=[]∧q=[]:=by
  cases gs with
  | nil=>exact⟨rfl,hV⟩
  | cons g r=>exact absurd hV (by intro h;cases h)
 have hlen:ds.length=fn.params.toList.length:=trodAll_len hA;obtain⟨e1,e2,e3⟩:=hspec ds hlen;refine⟨ds,[],p ++ [],[],p,[],hW',?_,?_,?_,hb.frame _,fun h=>by cases h⟩
 · rw[List.append_nil,e1,hres];exact trodAll_mk1 (shut_bool Tryz.underlying4 true)
 · rw[List.append_nil,e2];exact trodAll_below hb _ _ _ _ hts hA (fun x hx=>hlt x (by simp[hx]))
 · rw[List.append_nil,e3,hvars];rfl
end frame
def err1 : LaidE := ⟨1, "liaison/api.ErrRange", 0, [108, 105, 97, 105, 115, 111, 110, 58, 32, 114, 97, 110, 103, 101]⟩
theorem ok_err1:err1.ok:=⟨by kernel_rfl,by kernel_rfl⟩
def err2 : LaidE := ⟨2, "liaison/api.ErrShort", 1, [108, 105, 97, 105, 115, 111, 110, 58, 32, 115, 104, 111, 114, 116]⟩
theorem ok_err2:err2.ok:=⟨by kernel_rfl,by kernel_rfl⟩
def err3 : LaidE := ⟨3, "liaison/api.ErrLong", 2, [108, 105, 97, 105, 115, 111, 110, 58, 32, 108, 111, 110, 103]⟩
theorem ok_err3:err3.ok:=⟨by kernel_rfl,by kernel_rfl⟩
def err4 : LaidE := ⟨4, "liaison/api.ErrForm", 3, [108, 105, 97, 105, 115, 111, 110, 58, 32, 102, 111, 114, 109]⟩
theorem ok_err4:err4.ok:=⟨by kernel_rfl,by kernel_rfl⟩
def err5 : LaidE := ⟨5, "liaison/api.ErrCheck", 4, [108, 105, 97, 105, 115, 111, 110, 58, 32, 99, 104, 101, 99, 107]⟩
theorem ok_err5:err5.ok:=⟨by kernel_rfl,by kernel_rfl⟩
def err6 : LaidE := ⟨6, "liaison/api.ErrFull", 5, [108, 105, 97, 105, 115, 111, 110, 58, 32, 102, 117, 108, 108]⟩
theorem ok_err6:err6.ok:=⟨by kernel_rfl,by kernel_rfl⟩
def err7 : LaidE := ⟨7, "liaison/api.ErrPower", 6, [108, 105, 97, 105, 115, 111, 110, 58, 32, 112, 111, 119, 101, 114]⟩
theorem ok_err7:err7.ok:=⟨by kernel_rfl,by kernel_rfl⟩
def err8 : LaidE := ⟨8, "liaison/api.ErrNone", 7, [108, 105, 97, 105, 115, 111, 110, 58, 32, 110, 111, 110, 101]⟩
theorem ok_err8:err8.ok:=⟨by kernel_rfl,by kernel_rfl⟩
def err9 : LaidE := ⟨9, "liaison/api.ErrState", 8, [108, 105, 97, 105, 115, 111, 110, 58, 32, 115, 116, 97, 116, 101]⟩
theorem ok_err9:err9.ok:=⟨by kernel_rfl,by kernel_rfl⟩
def err10 : LaidE := ⟨10, "liaison/api.ErrTwice", 9, [108, 105, 97, 105, 115, 111, 110, 58, 32, 116, 119, 105, 99, 101]⟩
theorem ok_err10:err10.ok:=⟨by kernel_rfl,by kernel_rfl⟩
def err11 : LaidE := ⟨11, "liaison/api.ErrDepth", 10, [108, 105, 97, 105, 115, 111, 110, 58, 32, 100, 101, 112, 116, 104]⟩
theorem ok_err11:err11.ok:=⟨by kernel_rfl,by kernel_rfl⟩
def err12 : LaidE := ⟨12, "liaison/api.ErrExpired", 11, [108, 105, 97, 105, 115, 111, 110, 58, 32, 101, 120, 112, 105, 114, 101, 100]⟩
theorem ok_err12:err12.ok:=⟨by kernel_rfl,by kernel_rfl⟩
def err13 : LaidE := ⟨13, "liaison/api.ErrPanic", 12, [108, 105, 97, 105, 115, 111, 110, 58, 32, 112, 97, 110, 105, 99]⟩
theorem ok_err13:err13.ok:=⟨by kernel_rfl,by kernel_rfl⟩
def err14 : LaidE := ⟨14, "liaison/api.ErrProtocol", 13, [108, 105, 97, 105, 115, 111, 110, 58, 32, 112, 114, 111, 116, 111, 99, 111, 108]⟩
theorem ok_err14:err14.ok:=⟨by kernel_rfl,by kernel_rfl⟩
def errs14:List LaidE:=[err1,err2,err3,err4,err5,err6,err7,err8,err9,err10,err11,err12,err13,err14]
theorem num14 (i:Int) (h1:1≤i) (h2:i≤14):∃x∈errs14,x.num=i:=by
 obtain⟨n,rfl⟩:=nat14 ⟨h1,h2⟩;have h0:n≠0:=fun h=>by rw[h] at h1;exact absurd h1 (by decide)
 revert n;decide
theorem ok14:∀x∈errs14,x.ok:=by
 intro x hx;simp only[errs14,List.mem_cons,List.not_mem_nil,or_false] at hx;rcases hx with rfl | rfl | rfl | rfl | rfl | rfl | rfl | rfl | rfl | rfl | rfl | rfl | rfl | rfl
 · exact ok_err1
 · exact ok_err2
 · exact ok_err3
 · exact ok_err4
 · exact ok_err5
 · exact ok_err6
 · exact ok_err7
 · exact ok_err8
 · exact ok_err9
 · exact ok_err10
 · exact ok_err11
 · exact ok_err12
 · exact ok_err13
 · exact ok_err14
theorem errs_of_laid {W:World} {l:List (String×DataW Unit)} (hl:l=errs14.map LaidE.datum) (h:laidMetH Tryz.prog l W):∃ea,Errs ea W:=by
 rw[MakeChecks.laidMetH_plain _ _ _ (by rw[hl];rfl)] at h;obtain⟨ps,h,hnd,hrows⟩:=h;rw[hl] at h;obtain⟨ea,h1,h2⟩:=sentinels errs14 ps (by decide) ok14 h hnd hrows;have hm:∀i:Int,1≤i→i≤14→∃x∈errs14,x.num=i:=num14
 refine⟨ea,(h1 err1 (by simp[errs14])).1,(h1 err2 (by simp[errs14])).1,(h1 err3 (by simp[errs14])).1,(h1 err4 (by simp[errs14])).1,(h1 err5 (by simp[errs14])).1,(h1 err6 (by simp[errs14])).1,(h1 err7 (by simp[errs14])).1,(h1 err8 (by simp[errs14])).1,(h1 err9 (by simp[errs14])).1,(h1 err10 (by simp[errs14])).1,(h1 err11 (by simp[errs14])).1,(h1 err12 (by simp[errs14])).1,(h1 err13 (by simp[errs14])).1,(h1 err14 (by simp[errs14])).1,?_,?_⟩
 · intro i j a b c d he;obtain⟨x,hx,rfl⟩:=hm i a b;obtain⟨y,hy,rfl⟩:=hm j c d;exact h2 x hx y hy he
 · intro i a b;obtain⟨x,hx,rfl⟩:=hm i a b;exact(hrows _ _ (h1 x hx).2).1
section wrap
variable {H:Type} {enc:TypeId×Value→H}
theorem handed_and_shaped {a : Assume} {C : Checked} {os : Os} {f : FuncId} {fn : Func} {s : ChangeSpec} {conds : List PathCond} {apart fresh handsOn again : Bool} {X : World → Array Value → Prop}
    (hX:∀(w w':World) (args:Array Value),w.heap=w'.heap→X w args→X w' args)
    (own:ownKnob C.prog.godebug=none) (started:os.Started) (noInit:C.prog.inits.idxOf? f=none) (hfn:C.prog.funcs[f]? =some fn)
    (witness:∃(w:World) (tape:Tape) (i:Input),w.os=os∧(w.forCall tape i).Shaped C.prog∧i.vars=[]∧Input.okWide C.prog (w.forCall tape i) .any w.heap.size f i∧
      ((s.pre enc C.prog fn conds apart (w.forCall tape i).memory i.args∧X (w.forCall tape i).memory i.args)∧sizedMet enc C.prog fn (OpenSpec.ofChange s) apart (w.forCall tape i).memory i.args)∧a.holds C.prog (lone (Frame.enter C.prog f i.args .normal) [] (w.forCall tape i)))
    (contract:∀(W:World) (base:Nat) (args:Array Value) (ds gs:List (DataW H)) (before:List MemPlace),
      (∀(j:Nat) t v,fn.params[j]? =some t→args[j]? =some v→Value.okWide C.prog W .any base t v)→
      DataW.Whole enc C.prog fn.params.toList s.vars apart W args.toList ds gs before→
      conds.all (PathCond.test C.prog ⟨fn.params.toList,ds,s.plain.varTypes C.prog,gs⟩)=true→
      (DataW.weightsEach C.prog (fn.params.toList ++s.plain.varTypes C.prog) (ds ++gs)).all (·≤reachBytes)=true→X W args→W.ShapedOpen C.prog→
      a.holds C.prog (lone (Frame.enter C.prog f args .normal) [] W)→
      Calls C.prog f args W fun e W'=>∃v,e=.returned v∧s.post enc C.prog fn apart fresh handsOn again W args v W'):
    ReturnsInHanded a C os f .any (fun w args=>(s.pre enc C.prog fn conds apart w args∧X w args)∧sizedMet enc C.prog fn (OpenSpec.ofChange s) apart w args) (s.post enc C.prog fn apart fresh handsOn again):=by
 refine returnsInHanded_of_calls own started noInit witness ?_;intro w tape i _ hsh _ hok hpre hholds;obtain⟨_,_,_,fn',hfn',_,_,_,_,hval⟩:=hok;have e:fn'=fn:=Option.some.inj (hfn'.symm.trans hfn);subst e;obtain⟨⟨⟨ds,gs,before,hw,hc⟩,hx⟩,hz⟩:=hpre;have hw':=DataW.Whole.of_heap (w':=w.forCall tape i) (by rfl) hw
 refine(contract (w.forCall tape i) w.heap.size i.args ds gs before hval hw' hc (hz.weights hw) (hX _ _ _ (by rfl) hx) hsh hholds).mono fun e W' ⟨v,he,hp⟩=> ?_
 subst he;exact ChangeSpec.post_blind hp
end wrap
theorem laidVars_parts {P:Program} {W:World}:∀(A B:List (String×DataW Unit)) (ps:List MemPlace),DataW.LaidVars P W (A ++B) ps→∃p q,ps=p ++q∧DataW.LaidVars P W A p∧DataW.LaidVars P W B q
 | [],_,ps,h=>⟨[],ps,rfl,rfl,h⟩
 | (n,d)::A,B,ps,h=>by
  obtain⟨g0,t0,cs0,f0,p0,q0,hg0,ht0,hv0,hd0,hrest,e0⟩:=h;obtain⟨p,q,rfl,h1,h2⟩:=laidVars_parts A B q0 hrest;exact⟨MemPlace.row ⟨g0,0,none⟩ cs0.size ++p0 ++p,q,by rw[e0];simp[List.append_assoc],⟨g0,t0,cs0,f0,p0,p,hg0,ht0,hv0,hd0,h1,rfl⟩,h2⟩
theorem laidMet_parts {P:Program} {W:World} {A B:List (String×DataW Unit)} (h:laidMet P (A ++B) W):laidMet P A W∧laidMet P B W:=by
 obtain⟨ps,h,hnd,hrows⟩:=h;obtain⟨p,q,rfl,h1,h2⟩:=laidVars_parts A B ps h;have hn:=List.nodup_append.1 hnd;exact⟨⟨p,h1,hn.1,fun b off hb=>hrows b off (List.mem_append_left _ hb)⟩,⟨q,h2,hn.2.1,fun b off hb=>hrows b off (List.mem_append_right _ hb)⟩⟩
theorem pow10_dataS:(Lib.tabData .u64 Lib.pow10Tab:DataW Unit)=Rows.laid_internal_strconv_uint64pow10:=by kernel_rfl
theorem errsS_of_met {W:World} (h:laidMet Tryz.prog (errs14.map LaidE.datum) W):∃ea,Errs ea W:=
 errs_of_laid rfl (by rw[MakeChecks.laidMetH_plain _ _ _ (by rfl)];exact h)
theorem envS_of_laid {W : World} {A : List (String × DataW Unit)} {B : List (String × DataW Unit)} {l : List (String × DataW Unit)}
    (hl : l = A ++ (("internal/strconv.uint64pow10", Lib.tabData .u64 Lib.pow10Tab) :: B) ∧ ∃ D, B = errs14.map LaidE.datum ++ D) (hp : (l.all fun x => x.2.handleName?.isNone) = true) (h : laidMetH Tryz.prog l W) : ∃ ea, EnvS ea W := by
 rw[MakeChecks.laidMetH_plain _ _ _ hp] at h;obtain⟨rfl,D,rfl⟩:=hl;have h2:=(laidMet_parts h).2
 have h3 := (laidMet_parts (A := [("internal/strconv.uint64pow10", Lib.tabData .u64 Lib.pow10Tab)]) (B := errs14.map LaidE.datum ++ D) h2).2
 have h4:=(laidMet_parts h3).1;obtain⟨ea,he⟩:=errsS_of_met h4;exact⟨ea,he,Lib.tabIs_of_head (g:=15) (t:=380) (e:=202) (n:=20) (by kernel_rfl) (by kernel_rfl) Tryz.underlying380 Tryz.underlying202 (by kernel_rfl) (by kernel_rfl) h2⟩
theorem open_opens {H:Type} {enc:TypeId×Value→H} {W:World} {v:Value} {r:Reach} {b0:Nat} {d:DataW H} {p:List MemPlace} {sp:Nat→Bool} (hv:Value.okWide Tryz.prog W r b0 143 v) (h:DataW.Trod enc Tryz.prog W 0 sp true 143 v d p):∃(n0:Int) (x1:Nat) (x2:Nat) (n3:Int) (n4:Int) (n5:Int) (n6:Int) (n7:Int) (x8:Nat),v=.agg #[n0,.float .f64 x1,.float .f64 x2,n3,n4,n5,n6,n7,.float .f64 x8]∧F64 x1∧F64 x2∧F64 x8:=by
 obtain⟨cs,rfl,hsz⟩:=okWide_struct Tryz.underlying143 hv;obtain⟨l⟩:=cs
 match l,hsz.trans (show Tryz.prog.cellsOf 143=9 by kernel_rfl) with
 | [v0,v1,v2,v3,v4,v5,v6,v7,v8],_=>
  obtain⟨fuel,hf⟩:=h;obtain⟨xs0,k0,hk0,hxy0,_,hxl0,hfs0⟩:=DataW.trod_struct Tryz.underlying143 hf
  match xs0,hxl0 with
  | [y0_0,y0_1,y0_2,y0_3,y0_4],_=>
   have g0_0:=hfs0 0 _ rfl;have g0_1:=hfs0 1 _ rfl;have g0_2:=hfs0 2 _ rfl;have g0_3:=hfs0 3 _ rfl;have g0_4:=hfs0 4 _ rfl;simp[Value.cells,show Tryz.prog.cellsOf 48=5 by kernel_rfl,show Tryz.prog.cellsOf 37=1 by kernel_rfl,show Tryz.prog.cellsOf 3=1 by kernel_rfl] at g0_0 g0_1 g0_2 g0_3 g0_4;obtain⟨xs1,k1,hk1,hxy1,_,hxl1,hfs1⟩:=DataW.trod_struct Tryz.underlying48 g0_4
   match xs1,hxl1 with
   | [y1_0,y1_1,y1_2,y1_3],_=>
    have g1_0:=hfs1 0 _ rfl;have g1_1:=hfs1 1 _ rfl;have g1_2:=hfs1 2 _ rfl;have g1_3:=hfs1 3 _ rfl;simp[Value.cells,show Tryz.prog.cellsOf 36=2 by kernel_rfl,show Tryz.prog.cellsOf 37=1 by kernel_rfl,show Tryz.prog.cellsOf 3=1 by kernel_rfl] at g1_0 g1_1 g1_2 g1_3;obtain⟨xs2,k2,hk2,hxy2,_,hxl2,hfs2⟩:=DataW.trod_struct Tryz.underlying36 g1_0
    match xs2,hxl2 with
    | [y2_0,y2_1],_=>
     have g2_0:=hfs2 0 _ rfl;have g2_1:=hfs2 1 _ rfl;simp[Value.cells,show Tryz.prog.cellsOf 3=1 by kernel_rfl] at g2_0 g2_1;obtain⟨z0,e0,_⟩:=DataW.trod_int Tryz.underlying3 g0_0
     (try simp only[List.cons.injEq,and_true] at e0)
     obtain⟨z1,e1,w1⟩:=trod_f64 Tryz.underlying37 g0_1
     (try simp only[List.cons.injEq,and_true] at e1)
     obtain⟨z2,e2,w2⟩:=trod_f64 Tryz.underlying37 g0_2
     (try simp only[List.cons.injEq,and_true] at e2)
     obtain⟨z3,e3,_⟩:=DataW.trod_int Tryz.underlying3 g0_3
     (try simp only[List.cons.injEq,and_true] at e3)
     obtain⟨z4,e4,_⟩:=DataW.trod_int Tryz.underlying3 g2_0
     (try simp only[List.cons.injEq,and_true] at e4)
     obtain⟨z5,e5,_⟩:=DataW.trod_int Tryz.underlying3 g2_1
     (try simp only[List.cons.injEq,and_true] at e5)
     obtain⟨z6,e6,_⟩:=DataW.trod_int Tryz.underlying3 g1_1
     (try simp only[List.cons.injEq,and_true] at e6)
     obtain⟨z7,e7,_⟩:=DataW.trod_int Tryz.underlying3 g1_2
     (try simp only[List.cons.injEq,and_true] at e7)
     obtain⟨z8,e8,w8⟩:=trod_f64 Tryz.underlying37 g1_3
     (try simp only[List.cons.injEq,and_true] at e8)
     subst e0 e1 e2 e3 e4 e5 e6 e7 e8;exact⟨z0,z1,z2,z3,z4,z5,z6,z7,z8,rfl,w1,w2,w8⟩
theorem leadOpens_laid {l:List (String×DataW Unit)} (hl:l=Rows.leadOpensRow.laid) {W:World} (h:laidMetH Tryz.prog l W):∃ea,EnvS ea W:=by
 subst hl;exact envS_of_laid (A:=Rows.leadOpensRow.laid.take 2) (B:=Rows.leadOpensRow.laid.drop 3) ⟨by rw[pow10_dataS];rfl,Rows.leadOpensRow.laid.drop 17,rfl⟩ (by kernel_rfl) h
theorem leadOpens_lifted (os : Os) (started : os.Started) (H : Type) (enc : TypeId × Value → H) :
    ReturnsInHanded {} Tryz.checked os 17 .any (fun w args=>(Rows.leadOpensSpec.pre enc Tryz.prog Tryz.f17 [] false w args∧laidMetH Tryz.prog Rows.leadOpensRow.laid w)∧sizedMet enc Tryz.prog Tryz.f17 (OpenSpec.ofChange Rows.leadOpensSpec) false w args)
     (Rows.leadOpensSpec.post enc Tryz.prog Tryz.f17 false true false false):=by
 refine handed_and_shaped (C:=Tryz.checked) (X:=fun w _=>laidMetH Tryz.prog Rows.leadOpensRow.laid w) (fun _ _ _ hh h=>h.of_heap hh) Tryz.own started (by kernel_rfl) Tryz.func17
  (ChangeSpec.witness_shaped (enc:=enc) (C:=Tryz.checked) (os:=os) (X:=fun w _=>laidMetH Tryz.prog Rows.leadOpensRow.laid w) false (World.laidAll Tryz.prog os Rows.leadOpensRow.laid) #[.int .i64 0,.slice none 0 0,.agg #[.int .i64 0,.float .f64 0,.float .f64 0,.int .i64 0,.int .i64 0,.int .i64 0,.int .i64 0,.int .i64 0,.float .f64 0]] 8 (World.laidAll_os _ _ _) (World.shaped_of_ZipB (by kernel_rfl) (by kernel_rfl)) (by kernel_rfl) (by kernel_rfl) (by kernel_rfl)
    (by rw[MakeChecks.laidMetH_plain _ _ _ (by kernel_rfl)];exact laidMet_laidAll _ (by kernel_rfl) (by kernel_rfl))) ?_
 intro W base args ds gs before hval0 hW _ hsz hL hshape _;have hval:∀(j:Nat) t v,Tryz.f17.params[j]? =some t→args[j]? =some v→Value.okWide Tryz.prog W .any base t v:=hval0;have hpost:∀W',Below W.heap.size W W'→Rows.leadOpensSpec.post enc Tryz.prog Tryz.f17 false true false false W args (.bool true) W':=fun W' hb=>
  frame_post (by rw[Tryz.params17];decide+kernel) rfl rfl (fun ds h=>by rw[Tryz.params17] at h;match ds,h with | [d0,d1,d2],_=>exact⟨rfl,rfl,rfl⟩) hW hb
 obtain⟨p,q,hA0,hV,rfl,hfz,hnd⟩:=hW;have hA:DataW.TrodAll enc Tryz.prog W 0 (fun _=>true) true Tryz.f17.params.toList args.toList ds p:=hA0;rw[Tryz.params17] at hA hval;obtain⟨v0,v1,v2,d0,d1,d2,p0,p1,p2,rfl,rfl,rfl,h0,h1,h2⟩:=trodAll_three hA;obtain⟨x,rfl,_,_,wx⟩:=open_int Tryz.underlying3 (hval 0 _ v0 rfl rfl) h0;obtain⟨a1,n1,c1,rfl⟩:=okWide_slice Tryz.underlying22 (hval 1 _ v1 rfl rfl)
 obtain⟨fs,hR,hF⟩:=open_facts h1;obtain⟨oc,now,lasts,pt,cn,cq,co,cd,cx,rfl,hn1,hn2,hn3⟩:=open_opens (hval 2 _ v2 rfl rfl) h2;obtain⟨ea,hE⟩:=(leadOpens_laid rfl hL)
 exact(law_lopen x _ fs oc now lasts pt cn cq co cd cx ea W hE hR hF hn1 hn2 hn3).mono fun e W' ⟨he,hb⟩=>⟨_,he,hpost W' hb⟩
theorem js_laid:laidOutB Tryz.pinned.checked.prog=true:=by kernel_rfl
theorem js_maps:mapsRowed Tryz.pinned.checked.prog=true:=by kernel_rfl
theorem js_heard:Tryz.pinned.checked.prog.stopsHeard=true:=by kernel_rfl
theorem js_enter:Tryz.pinned.checked.prog.mayEnter=true:=by kernel_rfl
theorem js_plain:(Rows.partnerOnceRow.plainKeys==Tryz.pinned.checked.prog.plainKeys)=true:=by kernel_rfl
theorem js_lift:(Rows.partnerOnceRow.lifted==Tryz.pinned.checked.prog.liftsFinal)=true:=by kernel_rfl
theorem js_make:(Tryz.pinned.checked.prog.make==some Rows.partnerOnceRow.make)=true:=by kernel_rfl
theorem leadOpens_joined:joinedFacts Tryz.pinned.checked.prog 17 Tryz.f17 Rows.leadOpensSpec Rows.leadOpensRow=true:=by
 unfold joinedFacts;simp only[Bool.and_eq_true]
 repeat' apply And.intro
 · as_aux_lemma=>kernel_rfl
 · exact js_laid
 · exact js_maps
 · as_aux_lemma=>kernel_rfl
 · as_aux_lemma=>kernel_rfl
 · as_aux_lemma=>kernel_rfl
 · as_aux_lemma=>kernel_rfl
 · as_aux_lemma=>kernel_rfl
 · as_aux_lemma=>kernel_rfl
 · as_aux_lemma=>kernel_rfl
 · as_aux_lemma=>kernel_rfl
 · as_aux_lemma=>kernel_rfl
 · as_aux_lemma=>kernel_rfl
 · as_aux_lemma=>kernel_rfl
 · as_aux_lemma=>kernel_rfl
 · as_aux_lemma=>kernel_rfl
 · as_aux_lemma=>kernel_rfl
 · as_aux_lemma=>kernel_rfl
 · as_aux_lemma=>kernel_rfl
 · as_aux_lemma=>kernel_rfl
 · as_aux_lemma=>kernel_rfl
 · as_aux_lemma=>kernel_rfl
 · exact js_plain
 · as_aux_lemma=>kernel_rfl
 · exact js_heard
 · exact js_enter
 · exact js_lift
 · exact js_make
 · as_aux_lemma=>kernel_rfl
 · as_aux_lemma=>kernel_rfl
 · as_aux_lemma=>kernel_rfl
 · as_aux_lemma=>kernel_rfl
end Go.Proofs.YtlkajejbfojkeaaGreatDoor
