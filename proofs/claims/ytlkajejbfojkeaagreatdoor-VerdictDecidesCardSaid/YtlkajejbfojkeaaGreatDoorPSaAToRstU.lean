/- SaA, VdI, VgE, VgF, RstC, RstU -/
import Derived.Test.YtlkajejbfojkeaaGreatDoorPRfcD
set_option linter.unusedSimpArgs false
set_option linter.unusedVariables false
set_option maxRecDepth 100000
set_option maxHeartbeats 16000000
namespace Go.Proofs.YtlkajejbfojkeaaGreatDoor
open Go.RowKit
attribute [local go_sem] store_float
theorem same13 (b c:Nat) (C:Array Value) (hC:∀k,k<13→∃x:Int,C[k]? =some (.int .i64 x)) (w:World) (h1:Blk w b C) (h2:Blk w c C):Calls Tryz.prog 118 #[.slice (some ⟨b,0,none⟩) 13 13,.slice (some ⟨c,0,none⟩) 13 13] w (Makes (.bool true) w):=by
 have H1:=qq h1;have H2:=qq h2;have HC:=qq hC;clear h1 h2 hC;go_enter Tryz.func118,Tryz.ntmps118;go_wp2_with fail;go_loopw [13] (fun i wr=>∃k:Nat,k≤13∧i=.int .i64 (k:Nat)∧Below w.heap.size w wr) (fun i _=>13 - (intOf i).toNat)
 case atStart=>exact⟨0,by omega,by go_num,Below.refl _ _⟩
 case round=>
  obtain⟨k,hk,rfl,hB⟩:=hrel;by_cases hlt:k<13
  · obtain⟨x,hx⟩:=HC.out k hlt;have c1:wr.cell? ⟨b,k,none⟩=some (.int .i64 x):=((H1.out.below hB).cell k).trans hx;have c2:wr.cell? ⟨c,k,none⟩=some (.int .i64 x):=((H2.out.below hB).cell k).trans hx;clear hx;have hki:(k:Int)<13:=by omega
    have hk0:(0:Int)≤(k:Int):=by omega
    go_wp2_with fail;go_quiet (fail)
    all_goals go_wp2_with fail
    all_goals (go_roundw<;>first | exact⟨k+1,by omega,by go_num,below_then hB ⟨rfl,rfl,rfl,Nat.le_refl _,fun _ _=>rfl⟩⟩ | (simp[intOf];omega))
  · obtain rfl:k=13:=by omega
    go_wp2_with fail;go_ret;exact⟨rfl,hB⟩
theorem rsame14_self (f:SFact) (hx:F64 f.ex) (w:World):Calls Tryz.prog 35 #[factV f,factV f] w (Makes (.bool true) w):=by
 have HN:=qq (fun W=>numbers_of f W);have HR:=qq (fun W=>rbits_of f.ex hx W);obtain⟨k,an,aq,rg,nd,pt,pr,oc,dp,pa,st,hw,de,ex⟩:=f;dsimp only[factV,factC] at*
 have HIL:=qq (show ∀jj,jj<13→∃x:Int,(#[.int .i64 k,.int .i64 an,.int .i64 aq,.int .i64 rg,.int .i64 nd,.int .i64 pt,.int .i64 pr,.int .i64 oc,.int .i64 dp,.int .i64 pa,.int .i64 st,.int .i64 hw,.int .i64 de]:Array Value)[jj]? =some (.int .i64 x) from fun jj hk=>by
   have h:jj=0∨jj=1∨jj=2∨jj=3∨jj=4∨jj=5∨jj=6∨jj=7∨jj=8∨jj=9∨jj=10∨jj=11∨jj=12:=by omega
   rcases h with rfl | rfl | rfl | rfl | rfl | rfl | rfl | rfl | rfl | rfl | rfl | rfl | rfl<;>exact⟨_,rfl⟩)
 clear hx;go_enter Tryz.func35,Tryz.ntmps35;go_wp2_with fail;have HB:Hid (Below w.heap.size w (World.drew ((w.alloc (.cells #[k,an,aq,rg,nd,pt,pr,oc,dp,pa,st,hw,de,.float .f64 ex] 42)).alloc (.cells #[k,an,aq,rg,nd,pt,pr,oc,dp,pa,st,hw,de,.float .f64 ex] 42)))):=qq (by go_grown)
 refine wp_region_held_drew (S:=fun w'=>Blk w' w.heap.size #[k,an,aq,rg,nd,pt,pr,oc,dp,pa,st,hw,de,.float .f64 ex]∧Blk w' (w.heap.size+1) #[k,an,aq,rg,nd,pt,pr,oc,dp,pa,st,hw,de,.float .f64 ex]) (by kernel_rfl) (⟨((Blk.fresh w #[k,an,aq,rg,nd,pt,pr,oc,dp,pa,st,hw,de,.float .f64 ex] 42 _ rfl).alloc _).drew,(Blk.fresh (w.alloc (.cells #[k,an,aq,rg,nd,pt,pr,oc,dp,pa,st,hw,de,.float .f64 ex] 42)) #[.int .i64 k,.int .i64 an,.int .i64 aq,.int .i64 rg,.int .i64 nd,.int .i64 pt,.int .i64 pr,.int .i64 oc,.int .i64 dp,.int .i64 pa,.int .i64 st,.int .i64 hw,.int .i64 de,.float .f64 ex] 42 (w.heap.size+1) (by simp)).drew⟩) (fun hHeld=> ?_)
 generalize(World.drew ((w.alloc (.cells #[k,an,aq,rg,nd,pt,pr,oc,dp,pa,st,hw,de,.float .f64 ex] 42)).alloc (.cells #[k,an,aq,rg,nd,pt,pr,oc,dp,pa,st,hw,de,.float .f64 ex] 42)))=w0 at*;refine takeU (d:=some 5) 0 rfl rfl hHeld (fun w' hS'=>by have qA:=hS'.1.cell;have qB:=hS'.2.cell;clear hS';go_simp;(try rfl)) ?_;simp only[puts]
 refine takeU (d:=some 7) 2 rfl rfl hHeld (fun w' hS'=>by have qA:=hS'.1.cell;have qB:=hS'.2.cell;clear hS';go_simp;(try rfl)) ?_;simp only[puts];refine wpAnyH_call (d:=some 6) 1 119 _ _ [.agg #[k,an,aq,rg,nd,pt,pr,oc,dp,pa,st,hw,de,.float .f64 ex]] rfl rfl (by kernel_rfl) rfl (enters_of Tryz.func119 (by kernel_rfl) rfl) (by rfl) (by rfl) ?_;refine(HN.out _).mono ?_;rintro e w5 ⟨g1,rfl,hg1,hb5⟩
 have HB:=qq (below_then HB.out hb5);have HG1:=qq hg1;have hHeld:(fun w'=>Blk w' w.heap.size #[k,an,aq,rg,nd,pt,pr,oc,dp,pa,st,hw,de,.float .f64 ex]∧Blk w' (w.heap.size+1) #[k,an,aq,rg,nd,pt,pr,oc,dp,pa,st,hw,de,.float .f64 ex]) _:=⟨hHeld.1.below hb5,hHeld.2.below hb5⟩
 refine⟨_,rfl,_,fun _ h=>h,hHeld,fun hHeld=> ?_⟩;simp only[Act.put,puts];clear hb5 hg1;refine wpAnyH_call (d:=some 8) 3 119 _ _ [.agg #[k,an,aq,rg,nd,pt,pr,oc,dp,pa,st,hw,de,.float .f64 ex]] rfl rfl (by kernel_rfl) rfl (enters_of Tryz.func119 (by kernel_rfl) rfl) (by rfl) (by rfl) ?_;refine(HN.out _).mono ?_;rintro e w6 ⟨g2,rfl,hg2,hb6⟩
 have HB:=qq (below_then HB.out hb6);have HG1:=qq (HG1.out.below hb6);have HG2:=qq hg2;have hHeld:(fun w'=>Blk w' w.heap.size #[k,an,aq,rg,nd,pt,pr,oc,dp,pa,st,hw,de,.float .f64 ex]∧Blk w' (w.heap.size+1) #[k,an,aq,rg,nd,pt,pr,oc,dp,pa,st,hw,de,.float .f64 ex]) _:=⟨hHeld.1.below hb6,hHeld.2.below hb6⟩
 refine⟨_,rfl,_,fun _ h=>h,hHeld,fun hHeld=> ?_⟩;simp only[Act.put,puts];clear hb6 hg2;refine wpAnyH_call (d:=some 9) 4 118 _ _ [.slice (some ⟨g1,0,none⟩) 13 13,.slice (some ⟨g2,0,none⟩) 13 13] rfl rfl (by kernel_rfl) rfl (enters_of Tryz.func118 (by kernel_rfl) rfl) (by rfl) (by rfl) ?_;refine(same13 g1 g2 _ HIL.out _ HG1.out HG2.out).mono ?_;rintro e w7 ⟨rfl,hb7⟩
 have HB:=qq (below_then HB.out hb7);have hHeld:(fun w'=>Blk w' w.heap.size #[k,an,aq,rg,nd,pt,pr,oc,dp,pa,st,hw,de,.float .f64 ex]∧Blk w' (w.heap.size+1) #[k,an,aq,rg,nd,pt,pr,oc,dp,pa,st,hw,de,.float .f64 ex]) _:=⟨hHeld.1.below hb7,hHeld.2.below hb7⟩
 refine⟨_,rfl,_,fun _ h=>h,hHeld,fun hHeld=> ?_⟩;simp only[Act.put,puts];clear hb7;refine takeU (d:=some 10) 5 rfl rfl hHeld (fun w' hS'=>by have qA:=hS'.1.cell;have qB:=hS'.2.cell;clear hS';go_simp;(try rfl)) ?_;simp only[puts];refine takeU (d:=some 11) 6 rfl rfl hHeld (fun w' hS'=>by have qA:=hS'.1.cell;have qB:=hS'.2.cell;clear hS';go_simp;(try rfl)) ?_;simp only[puts]
 refine takeU (d:=some 12) 7 rfl rfl hHeld (fun w' hS'=>by have qA:=hS'.1.cell;have qB:=hS'.2.cell;clear hS';go_simp;(try rfl)) ?_;simp only[puts];refine takeU (d:=some 14) 9 rfl rfl hHeld (fun w' hS'=>by have qA:=hS'.1.cell;have qB:=hS'.2.cell;clear hS';go_simp;(try rfl)) ?_;simp only[puts]
 refine takeU (d:=some 15) 10 rfl rfl hHeld (fun w' hS'=>by have qA:=hS'.1.cell;have qB:=hS'.2.cell;clear hS';go_simp;(try rfl)) ?_;simp only[puts];refine wpAnyH_call (d:=some 13) 8 120 _ _ [.float .f64 ex] rfl rfl (by kernel_rfl) rfl (enters_of Tryz.func120 (by kernel_rfl) rfl) (by rfl) (by rfl) ?_;refine(HR.out _).mono ?_;rintro e w8 ⟨rfl,rfl⟩;refine⟨_,rfl,_,fun _ h=>h,hHeld,fun hHeld=> ?_⟩
 simp only[Act.put,puts];refine wpAnyH_call (d:=some 16) 11 120 _ _ [.float .f64 ex] rfl rfl (by kernel_rfl) rfl (enters_of Tryz.func120 (by kernel_rfl) rfl) (by rfl) (by rfl) ?_;refine(HR.out _).mono ?_;rintro e w8 ⟨rfl,rfl⟩;refine⟨_,rfl,_,fun _ h=>h,hHeld,fun hHeld=> ?_⟩;simp only[Act.put,puts]
 refine takeU (d:=some 17) 12 rfl rfl hHeld (fun w' hS'=>by have qA:=hS'.1.cell;have qB:=hS'.2.cell;clear hS';go_simp;(try rfl)) ?_;simp only[puts];refine takeU (d:=some 18) 13 rfl rfl hHeld (fun w' hS'=>by have qA:=hS'.1.cell;have qB:=hS'.2.cell;clear hS';go_simp;(try rfl)) ?_;simp only[puts]
 refine takeU (d:=some 4) 14 rfl rfl hHeld (fun w' hS'=>by have qA:=hS'.1.cell;have qB:=hS'.2.cell;clear hS';go_simp;(try rfl)) ?_;simp only[puts];refine wpAnyH_done (by kernel_rfl) ?_ _;clear hHeld;go_wp2_with fail;go_ret;exact⟨ret_bool (by simp),HB.out⟩
theorem msgNe (mk mf mt man maq mrg mpt mpr mco:Int) (w:World):(binOp .neq 81 (.agg #[mk,mf,mt,man,maq,mrg,mpt,mpr,mco]) (.agg #[mk,mf,mt,man,maq,mrg,mpt,mpr,mco])).run Tryz.prog w=.ok (.bool false) w:=by
 go_simp
theorem rsame16_self (a b c d : Option Addr) (ac bc cc dc : Nat) (fs : List SFact) (ms : List SMsg) (wk : Int) (w : World) (h1 : ReadFacts w (.slice a fs.length ac) fs) (h2 : ReadFacts w (.slice b fs.length bc) fs) (h3 : ReadMsgs w (.slice c ms.length cc) ms) (h4 : ReadMsgs w (.slice d ms.length dc) ms) (hx : ∀ f ∈ fs, F64 f.ex) (hl1 : fs.length ≤ 1000) (hl2 : ms.length ≤ 1000) :
    Calls Tryz.prog 42 #[.agg #[.slice a fs.length ac,.slice c ms.length cc,wk],.agg #[.slice b fs.length bc,.slice d ms.length dc,wk]] w (Makes (.bool true) w):=by
 have G1:∀(v:Option Addr) (vc:Nat),ReadFacts w (.slice v fs.length vc) fs→Hid (∀k,k<fs.length→∃f,fs[k]? =some f∧∃b off,v=some ⟨b,off,none⟩∧b<w.heap.size∧FactAt w b (off+k*14) f):=fun v vc h=>qq (fun k hk=>by
   obtain⟨a',cap',hv,hr⟩:=h;obtain⟨b,off,ha,hb,hf⟩:=hr (by intro e;rw[e] at hk;simp at hk);simp only[Value.slice.injEq,true_and] at hv;exact⟨fs[k],List.getElem?_eq_getElem hk,b,off,by rw[hv.1,ha],hb,hf k hk⟩)
 have G2:∀(v:Option Addr) (vc:Nat),ReadMsgs w (.slice v ms.length vc) ms→Hid (∀k,k<ms.length→∃f,ms[k]? =some f∧∃b off,v=some ⟨b,off,none⟩∧b<w.heap.size∧MsgC w b (off+k*9) f):=fun v vc h=>qq (fun k hk=>by
   obtain⟨a',cap',hv,hr⟩:=h;obtain⟨b,off,ha,hb,hf⟩:=hr (by intro e;rw[e] at hk;simp at hk);simp only[Value.slice.injEq,true_and] at hv;exact⟨ms[k],List.getElem?_eq_getElem hk,b,off,by rw[hv.1,ha],hb,hf k hk⟩)
 have H1:=G1 a ac h1;have H2:=G1 b bc h2;have H3:=G2 c cc h3;have H4:=G2 d dc h4;have HS:=qq (fun f hf W=>rsame14_self f (hx f hf) W);clear h1 h2 h3 h4 hx G1 G2;obtain⟨n,hn⟩:∃n,n=fs.length:=⟨_,rfl⟩
 obtain⟨m,hm⟩:∃m,m=ms.length:=⟨_,rfl⟩
 rw[←hn] at H1 H2 hl1⊢;rw[←hm] at H3 H4 hl2⊢;clear hn hm;have B0:Below w.heap.size w ((w.alloc (.cells #[.slice a n ac,.slice c m cc,wk] 95)).alloc (.cells #[.slice b n bc,.slice d m dc,wk] 95)):=by go_grown
 have HA:=qq ((Blk.fresh w #[.slice a n ac,.slice c m cc,wk] 95 _ rfl).alloc (.cells #[.slice b n bc,.slice d m dc,wk] 95));have HB:=qq (Blk.fresh (w.alloc (.cells #[.slice a n ac,.slice c m cc,wk] 95)) #[.slice b n bc,.slice d m dc,wk] 95 (w.heap.size+1) (by simp));have HB0:=qq B0;clear B0;go_enter Tryz.func42,Tryz.ntmps42;go_wp2_with fail
 generalize hW0:((w.alloc (.cells #[.slice a n ac,.slice c m cc,wk] 95)).alloc (.cells #[.slice b n bc,.slice d m dc,wk] 95))=w0 at*;clear hW0;go_loopw [33] (fun i wr=>∃k:Nat,k≤n∧i=.int .i64 (k:Nat)∧Below w0.heap.size w0 wr) (fun i _=>n - (intOf i).toNat)
 case atStart=>exact⟨0,by omega,by first | rfl | go_num,Below.refl _ _⟩
 case round=>
  obtain⟨k,hk,rfl,hB⟩:=hrel;have qa:=(HA.out.below hB).cell;have qb:=(HB.out.below hB).cell;have B1:Below w.heap.size w wr:=below_then HB0.out hB;by_cases hlt:k<n
  · obtain⟨f,hf,b1,o1,rfl,hl1',hc1⟩:=H1.out k hlt;obtain⟨f',hf',b2,o2,rfl,hl2',hc2⟩:=H2.out k hlt;obtain rfl:f=f':=by rw[hf] at hf';injection hf'
    have HSf:=qq (fun W=>HS.out f (List.mem_of_getElem? hf) W);have c1:=hc1.below B1 hl1';have c2:=hc2.below B1 hl2';have hki:(k:Int)<(n:Int):=by omega
    have hk0:(0:Int)≤(k:Int):=by omega
    clear hf hf' hc1 hc2;obtain⟨fk,fan,faq,frg,fnd,fpt,fpr,foc,fdp,fpa,fst,fhw,fde,ex⟩:=f;dsimp only[factV,factC] at HSf;obtain⟨p0,p1,p2,p3,p4,p5,p6,p7,p8,p9,p10,p11,p12,p13⟩:=c1;obtain⟨r0,r1,r2,r3,r4,r5,r6,r7,r8,r9,r10,r11,r12,r13⟩:=c2;dsimp only at p0 p1 p2 p3 p4 p5 p6 p7 p8 p9 p10 p11 p12 p13 r0 r1 r2 r3 r4 r5 r6 r7 r8 r9 r10 r11 r12 r13;have q0:=qa 0;have q1:=qb 0;clear qa qb;go_wp2_with fail
    go_still_tail 10,(by kernel_rfl)
    change wpList _ _ _ _ _ (World.drew _);go_wp2_with (go_at_call 35;refine(HSf.out _).mono ?_;rintro e w5 ⟨rfl,hb5⟩)
    all_goals (go_roundw<;>first | exact⟨k+1,by omega,by go_num,below_then hB (below_then (by go_grown) hb5)⟩ | (simp[intOf];omega))
  · obtain rfl:k=n:=by omega
    have HA2:=qq (HA.out.below hB);have HB2:=qq (HB.out.below hB);have q1:=qa 1;have HB1:=qq B1;clear hB qb hlt hk;go_wp2_with fail;clear qa q1;obtain⟨w1,rfl⟩:∃w1:World,w1=wr:=⟨_,rfl⟩
    clear B1;go_loopw [52] (fun i wr=>∃k:Nat,k≤m∧i=.int .i64 (k:Nat)∧Below w1.heap.size w1 wr) (fun i _=>m - (intOf i).toNat)
    case atStart=>exact⟨0,by omega,by first | rfl | go_num,Below.refl _ _⟩
    case round=>
     obtain⟨k,hk,rfl,hB⟩:=hrel;have qa:=(HA2.out.below hB).cell;have qb:=(HB2.out.below hB).cell;have B1:Below w.heap.size w wr:=below_then HB1.out hB;by_cases hlt:k<m
     · obtain⟨f,hf,b1,o1,rfl,hl1',hc1⟩:=H3.out k hlt;obtain⟨f',hf',b2,o2,rfl,hl2',hc2⟩:=H4.out k hlt;obtain rfl:f=f':=by rw[hf] at hf';injection hf'
       have c1:=hc1.below B1 hl1';have c2:=hc2.below B1 hl2';have hki:(k:Int)<(m:Int):=by omega
       have hk0:(0:Int)≤(k:Int):=by omega
       clear hf hf' hc1 hc2;obtain⟨mk,mf,mt,man,maq,mrg,mpt,mpr,mco⟩:=f;obtain⟨p0,p1,p2,p3,p4,p5,p6,p7,p8⟩:=c1;obtain⟨r0,r1,r2,r3,r4,r5,r6,r7,r8⟩:=c2;dsimp only at p0 p1 p2 p3 p4 p5 p6 p7 p8 r0 r1 r2 r3 r4 r5 r6 r7 r8;have hne:=msgNe mk mf mt man maq mrg mpt mpr mco;have q1:=qa 1;have q2:=qb 1;clear qa qb;go_wp2_with fail;go_quiet (fail)
       all_goals go_wp2_with fail
       all_goals (go_roundw<;>first | exact⟨k+1,by omega,by go_num,below_then hB ⟨rfl,rfl,rfl,Nat.le_refl _,fun _ _=>rfl⟩⟩ | (simp[intOf];omega))
     · obtain rfl:k=m:=by omega
       go_wp2_with fail;go_ret;exact⟨rfl,B1⟩
def IdC (w:World) (b o:Nat) (x:Int×Int):Prop:=w.cell? ⟨b,o,none⟩=some (.int .i64 x.1)∧w.cell? ⟨b,o+1,none⟩=some (.int .i64 x.2)
def ReadIds (w:World) (v:Value) (xs:List (Int×Int)):Prop:=∃a cap,v=.slice a xs.length cap∧∀(k:Nat) (x:Int×Int),xs[k]? =some x→∃g,a=some ⟨g,0,none⟩∧g<w.heap.size∧IdC w g (k*2) x
theorem ReadIds.below {w w':World} {v:Value} {xs:List (Int×Int)} (h:ReadIds w v xs) (hb:Below w.heap.size w w'):ReadIds w' v xs:=by
 obtain⟨a,cap,rfl,hr⟩:=h;refine⟨a,cap,rfl,fun k x hk=> ?_⟩;obtain⟨g,rfl,hg,h0,h1⟩:=hr k x hk;exact⟨g,rfl,Nat.lt_of_lt_of_le hg hb.size,(hb.cell (p:=⟨g,k*2,none⟩) hg).trans h0,(hb.cell (p:=⟨g,k*2+1,none⟩) hg).trans h1⟩
theorem read_ids {w:World} {B:Nat} {v:Value} {xs:List (Int×Int)} (h:w.ownsRow B 36 2 v xs.length (idsL xs)):ReadIds w v xs:=by
 obtain⟨a,cap,hv⟩:=row_slice h;subst hv;refine⟨a,cap,rfl,fun k x hk=> ?_⟩;obtain⟨hlt,he⟩:=List.getElem?_eq_some_iff.1 hk;obtain⟨g,cap',hv,_,_,hg,hc,_⟩:=row_form h (by omega);simp only[Value.slice.injEq,true_and] at hv;obtain⟨rfl,rfl⟩:=hv;have hat:=fun i hi=>flat_at idL 2 idL_len xs k i hlt hi
 refine⟨g,rfl,hg,?_,?_⟩
 · have:=hc _ _ (hat 0 (by decide));rw[he] at this;exact this
 · have:=hc _ _ (hat 1 (by decide));rw[he] at this;exact this
theorem actNe (n q:Int) (w:World):(binOp .neq 36 (.agg #[n,q]) (.agg #[n,q])).run Tryz.prog w=.ok (.bool false) w:=by
 go_simp
def vCarry (S:Sto) (n q:Int):SRes:=match lGet S n q with
 | none=>res0
 | some (_,a)=>vRes S a a.de
theorem vcarry_of (L:SLoc) (S:Sto) (na qa:Int) (ea:Int→Addr) (w:World) (hE:EnvS ea w) (h:StoreAt L S w) (hG:StoGood S):Calls Tryz.prog 51 #[.pointer (some ⟨L.sb,0,none⟩),.agg #[na,qa]] w (ResR (vCarry S na qa) w):=by
 unfold vCarry
 cases hg:lGet S na qa with
 | none=>exact vcarry_no L S na qa w h hG hg
 | some x=>
  obtain⟨i,a⟩:=x;obtain⟨_,_,_,h1,h2⟩:=lGet_some hg;subst h1 h2;exact vcarry_yes L S i a ea w h hG hE hg
theorem vFs_ex {d:Int} {a:SAct}:∀f∈vFs d a,f.ex=0:=by
 intro f hf;obtain⟨x,_,rfl⟩:=List.mem_map.1 hf;unfold vF;split<;>rfl
theorem vFs_len {S:Sto} {d:Int} {a:SAct} (h:a.regs.length≤6):(vFs d a).length≤6∧(vMs S d a).length≤6:=by
 unfold vFs vMs;rw[List.length_map,List.length_map];exact⟨Nat.le_trans vDirsN_len h,Nat.le_trans vDirsN_len h⟩
theorem vFs_ms (S:Sto) (d:Int) (a:SAct):(vFs d a).length=(vMs S d a).length:=by
 unfold vFs vMs;rw[List.length_map,List.length_map]
theorem vCarry_ex {S:Sto} {n q:Int}:∀f∈(vCarry S n q).fs,f.ex=0:=by
 unfold vCarry;split
 · intro f hf;cases hf
 · exact vFs_ex
theorem vCarry_len {S:Sto} (hS:StoGood S) {n q:Int}:(vCarry S n q).fs.length≤7∧(vCarry S n q).ms.length≤7:=by
 unfold vCarry;split
 · simp[res0]
 · rename_i i a hg
   have:=vFs_len (S:=S) (d:=a.de) (hS.act a (lGet_some hg).2.2.1).len;exact⟨by show(vFs a.de a).length≤7;omega,by show(vMs S a.de a).length≤7;omega⟩
theorem vCarry_fits {S:Sto} (hS:StoGood S) (n q:Int):∃T,sfit S (vCarry S n q).fs=(T,true):=by
 unfold vCarry;split
 · exact⟨S,rfl⟩
 · rename_i i a hg
   exact vRes_fits hS a.de hg
theorem vDecide_ex {S:Sto} {n q:Int} {cl:Bool}:∀f∈(vDecide S n q cl).1.fs,f.ex=0:=by
 unfold vDecide;split
 · intro f hf;cases hf
 · split
   · intro f hf;cases hf
   · intro f hf;rcases List.mem_cons.1 hf with rfl | hf
     · rfl
     · exact vFs_ex f hf
theorem vDecide_len {S:Sto} (hS:StoGood S) {n q:Int} {cl:Bool}:(vDecide S n q cl).1.fs.length≤7∧(vDecide S n q cl).1.ms.length≤7:=by
 unfold vDecide;split
 · simp[res0]
 · split
   · simp[res0]
   · rename_i i a hg _
     have:=vFs_len (S:=S) (d:=vDec cl) (hS.act a (lGet_some hg).2.2.1).len;exact⟨by show(vFs (vDec cl) a).length+1≤7;omega,by show(vMs S (vDec cl) a).length≤7;omega⟩
theorem vDecide_num {S:Sto} {n q:Int} {cl:Bool}:0≤(vDecide S n q cl).2∧(vDecide S n q cl).2≤14:=by
 unfold vDecide;split
 · simp
 · split<;>simp
theorem vDue_len {S:Sto} (hS:StoGood S):(vDue S).length≤8:=by
 unfold vDue;rw[List.length_map];exact Nat.le_trans (List.length_filter_le _ _) hS.acts
def slot (s:SReg):Nat:=if s.seat.h=7 then 0 else if s.seat.h=8 then 1 else if s.seat.h=6 then 2 else if s.seat.h=1 then 3 else if s.seat.h=4 then 4 else if s.seat.h=5 then 5 else 6
theorem slot_lt (s:SReg):slot s<7:=by unfold slot;repeat' (split<;>first | decide | skip)
def cnt (ss:List SReg) (i:Nat):Int:=((ss.countP (fun s=>decide (slot s=i)):Nat):Int)
theorem cnt_succ (ss:List SReg) (k:Nat) (h:k<ss.length) (i:Nat):cnt (ss.take (k+1)) i=cnt (ss.take k) i+(if i=slot ss[k] then 1 else 0):=by
 unfold cnt;rw[List.take_succ_eq_append_getElem h,List.countP_append];simp only[List.countP_cons,List.countP_nil,decide_eq_true_eq];by_cases h1:slot ss[k]=i
 · rw[if_pos h1,if_pos h1.symm];omega
 · rw[if_neg h1,if_neg (fun e=>h1 e.symm)];omega
theorem cnt_le (ss:List SReg) (k i:Nat):0≤cnt (ss.take k) i∧cnt (ss.take k) i≤k:=by
 unfold cnt;have h1:=List.countP_le_length (p:=fun s=>decide (slot s=i)) (l:=ss.take k);have h2:=List.length_take_le k ss;omega
def cntA (f:Nat→Int):Array Value:= #[.int .i64 (f 0),.int .i64 (f 1),.int .i64 (f 2),.int .i64 (f 3),.int .i64 (f 4),.int .i64 (f 5),.int .i64 (f 6)]
theorem cntA_get (f:Nat→Int) (i:Nat) (h:i<7):(cntA f)[i]? =some (.int .i64 (f i)):=by
 have:i=0∨i=1∨i=2∨i=3∨i=4∨i=5∨i=6:=by omega
 rcases this with rfl | rfl | rfl | rfl | rfl | rfl | rfl<;>rfl
theorem cntA_set (f g:Nat→Int) (i:Nat) (h:i<7) (hg:∀j,g j=f j+(if j=i then 1 else 0)):(cntA f).set i (.int .i64 (f i+1)) h=cntA g:=by
 have:i=0∨i=1∨i=2∨i=3∨i=4∨i=5∨i=6:=by omega
 rcases this with rfl | rfl | rfl | rfl | rfl | rfl | rfl<;>simp[cntA,hg]
theorem blk_count {w:World} {C:Nat} {f g:Nat→Int} {i:Nat} (hC:Blk w C (cntA f)) (h:i<7) (hg:∀j,g j=f j+(if j=i then 1 else 0)):Blk (w.setCell ⟨C,i,none⟩ (.int .i64 (f i+1))) C (cntA g):=by
 rw[←cntA_set f g i h hg];exact hC.set' i h _
theorem place_of (C:Nat) (rn rp p d st h:Int) (w:World):Calls Tryz.prog 235 #[.pointer (some ⟨C,0,none⟩),.int .i64 h] w (Gives (.pointer (some ⟨C,slot ⟨rn,rp,⟨p,d,st,h⟩⟩,none⟩)) w):=by
 unfold slot;dsimp only;by_cases h7:h=7
 · subst h7;rw[if_pos rfl];go_enter Tryz.func235,Tryz.ntmps235;go_wp2;go_ret;exact⟨rfl,rfl⟩
 rw[if_neg h7];by_cases h8:h=8
 · subst h8;rw[if_pos rfl];go_enter Tryz.func235,Tryz.ntmps235;go_wp2;go_ret;exact⟨rfl,rfl⟩
 rw[if_neg h8];by_cases h6:h=6
 · subst h6;rw[if_pos rfl];go_enter Tryz.func235,Tryz.ntmps235;go_wp2;go_ret;exact⟨rfl,rfl⟩
 rw[if_neg h6];by_cases h1:h=1
 · subst h1;rw[if_pos rfl];go_enter Tryz.func235,Tryz.ntmps235;go_wp2;go_ret;exact⟨rfl,rfl⟩
 rw[if_neg h1];by_cases h4:h=4
 · subst h4;rw[if_pos rfl];go_enter Tryz.func235,Tryz.ntmps235;go_wp2;go_ret;exact⟨rfl,rfl⟩
 rw[if_neg h4];by_cases h5:h=5
 · subst h5;rw[if_pos rfl];go_enter Tryz.func235,Tryz.ntmps235;go_wp2;go_ret;exact⟨rfl,rfl⟩
 rw[if_neg h5];go_enter Tryz.func235,Tryz.ntmps235;go_wp2;go_ret;exact⟨rfl,rfl⟩
abbrev zero7:Array Value:= #[.int .i64 0,.int .i64 0,.int .i64 0,.int .i64 0,.int .i64 0,.int .i64 0,.int .i64 0]
theorem vcounted_of (hd:SAct) (v:Value) (ss:List SReg) (w:World) (hr:RegRow w v ss) (hl:ss.length≤1000):Calls Tryz.prog 151 #[vactV hd v] w (Makes (.agg (cntA (cnt ss))) w):=by
 obtain⟨a,cap,rfl,hrow⟩:=hr;have HR:=qq hrow;clear hrow;obtain⟨n,hn⟩:∃n,n=ss.length:=⟨_,rfl⟩
 rw[←hn] at hl⊢;have HN:=qq hn;clear hn;dsimp only[vactV] at*;go_enter Tryz.func151,Tryz.ntmps151;go_wp2_with fail;go_loopw [9] (fun i wr=>∃k:Nat,k≤n∧i=.int .i64 (k:Nat)∧Blk wr (w.heap.size+1) zero7∧Blk wr (w.heap.size+1+1) (cntA (cnt (ss.take k)))∧Below w.heap.size w wr) (fun i _=>n - (intOf i).toNat)
 case atStart=>exact⟨0,by omega,by go_num,(Blk.fresh _ _ _ _ (by simp)).alloc _,Blk.fresh _ _ _ _ (by simp),by go_grown⟩
 case round=>
  obtain⟨k,hk,rfl,hZ,hC,hB⟩:=hrel;have HZ:=qq hZ;have HC:=qq hC;clear hZ hC;by_cases hlt:k<n
  · have hks:k<ss.length:=by rw[←HN.out];exact hlt
    obtain⟨b,off,rfl,hbl,hreg⟩:=HR.out (by intro e;rw[e] at hks;simp at hks);obtain⟨s,hs⟩:∃s,s=ss[k]:=⟨_,rfl⟩
    have hat:=(hreg k hks).below hB hbl;rw[←hs] at hat;obtain⟨c0,c1,c2,c3,c4,c5⟩:=hat;obtain⟨rn,rp,⟨sp,sd,st,sh⟩⟩:=s;dsimp only at c0 c1 c2 c3 c4 c5;have HS:=qq hs;clear hreg hs;have hki:(k:Int)<(n:Int):=by omega
    have hk0:(0:Int)≤(k:Int):=by omega
    have hsu:=cnt_succ ss k hks;rw[←HS.out] at hsu;have HPL:=qq (place_of (w.heap.size+1+1) rn rp sp sd st sh);have hi:=slot_lt ⟨rn,rp,⟨sp,sd,st,sh⟩⟩;have hcl:=cnt_le ss k (slot ⟨rn,rp,⟨sp,sd,st,sh⟩⟩);obtain⟨i,hie⟩:∃i,i=slot ⟨rn,rp,⟨sp,sd,st,sh⟩⟩:=⟨_,rfl⟩
    rw[←hie] at hsu HPL hi hcl;obtain⟨f,hf⟩:∃f,f=cnt (ss.take k):=⟨_,rfl⟩
    rw[←hf] at HC hcl hsu;have HSU:=qq hsu;clear hsu hie hf HS;have r1:∀o,(wr.alloc o).cell? ⟨w.heap.size+1+1,i,none⟩=some (.int .i64 (f i)):=fun o=>((HC.out.alloc o).cell i).trans (cntA_get f i hi)
    have r2:∀o,(wr.alloc o).frozen? ⟨w.heap.size+1+1,i,none⟩=false:=fun o=>(HC.out.alloc o).free i
    have hw:IntKind.i64.wrap (f i+1)=f i+1:=IntWalk.i64_in _ (by omega);have hCl:=HC.out.lt;go_wp2_with fail;refine(HPL.out _).mono ?_;rintro e w1 ⟨rfl,rfl⟩;go_wp2_with fail
    all_goals (go_roundw<;>first | exact⟨k+1,by omega,by go_num,(HZ.out.other (p:=⟨w.heap.size+1+1,i,none⟩) (by dsimp only;omega) _).alloc _,(blk_count HC.out hi HSU.out).alloc _,(hB.setCell (p:=⟨w.heap.size+1+1,i,none⟩) (by dsimp only;omega) _).alloc (by simp;omega) _⟩ | (simp[intOf];omega))
  · obtain rfl:k=n:=by omega
    rw[List.take_of_length_le (by rw[HN.out];omega)] at HC;generalize cnt ss=f at*;have z:=HZ.out.cell;have zf:=HZ.out.free;have c:=HC.out.cell;have hCl:=HC.out.lt;unfold cntA at*;dsimp only[zero7] at z;go_wp2_with fail
    exact bodyPost_ret (v:=.agg #[.int .i64 (f 0),.int .i64 (f 1),.int .i64 (f 2),.int .i64 (f 3),.int .i64 (f 4),.int .i64 (f 5),.int .i64 (f 6)]) (by simp[results,Tryz.results151,go_sem,z,zf,c]) rfl ⟨rfl,by
      refine Below.setCell (p:=⟨w.heap.size+1,6,none⟩) (Below.setCell (p:=⟨w.heap.size+1,5,none⟩) (Below.setCell (p:=⟨w.heap.size+1,4,none⟩) (Below.setCell (p:=⟨w.heap.size+1,3,none⟩) (Below.setCell (p:=⟨w.heap.size+1,2,none⟩) (Below.setCell (p:=⟨w.heap.size+1,1,none⟩) (Below.setCell (p:=⟨w.heap.size+1,0,none⟩) hB ?_ _) ?_ _) ?_ _) ?_ _) ?_ _) ?_ _) ?_ _<;>(dsimp only;omega)⟩
def hd0:SAct:=⟨0,0,0,0,0,0,0,[]⟩
theorem alive18 (w:World):Calls Tryz.prog 49 #[] w (Makes (.bool true) w):=by
 have fld:∀(a b c d e f g:Value) (w:World),(Instr.field 235 (.agg #[a,b,c,d,e,f,g]) 3).run Tryz.prog w=.ok d w:=fun a b c d e f g w=>by kernel_rfl
 obtain⟨ss,hss⟩:∃ss:List SReg,ss=[⟨0,0,⟨0,0,5,0⟩⟩,⟨0,0,⟨0,0,14,1⟩⟩]:=⟨_,rfl⟩
 have g1:ss.all qReady=true:=by rw[hss];decide
 have g2:ss.all qOver=false:=by rw[hss];decide
 have g3:((ss.all fun s=> !(qCloses s)) || (ss.all fun s=> !(qUndoes s)))=true:=by rw[hss];decide
 have g4:cnt ss 3=1:=by rw[hss];decide
 have hl:ss.length≤1000:=by rw[hss];decide
 have hB:Below w.heap.size w ((w.alloc (.cells #[.int .i64 0,.int .i64 0,.int .i64 0,.int .i64 0,.int .i64 5,.int .i64 0,.int .i64 0,.int .i64 0,.int .i64 0,.int .i64 0,.int .i64 14,.int .i64 1] 55)).alloc (.cells (vactC hd0 (.slice (some ⟨w.heap.size,0,none⟩) 2 2)) 51)):=((Below.refl _ _).alloc (Nat.le_refl _) _).alloc (by simp) _
 have hr:RegRow ((w.alloc (.cells #[.int .i64 0,.int .i64 0,.int .i64 0,.int .i64 0,.int .i64 5,.int .i64 0,.int .i64 0,.int .i64 0,.int .i64 0,.int .i64 0,.int .i64 14,.int .i64 1] 55)).alloc (.cells (vactC hd0 (.slice (some ⟨w.heap.size,0,none⟩) 2 2)) 51)) (.slice (some ⟨w.heap.size,0,none⟩) 2 2) ss:=by
  have c:=((Blk.fresh w #[.int .i64 0,.int .i64 0,.int .i64 0,.int .i64 0,.int .i64 5,.int .i64 0,.int .i64 0,.int .i64 0,.int .i64 0,.int .i64 0,.int .i64 14,.int .i64 1] 55 _ rfl).alloc (.cells (vactC hd0 (.slice (some ⟨w.heap.size,0,none⟩) 2 2)) 51)).cell;subst hss;refine⟨_,2,rfl,fun _=>⟨w.heap.size,0,rfl,by simp;omega,fun j hj=> ?_⟩⟩;have:j=0∨j=1:=by simp at hj;omega
  rcases this with rfl | rfl
  · exact⟨c 0,c 1,c 2,c 3,c 4,c 5⟩
  · exact⟨c 6,c 7,c 8,c 9,c 10,c 11⟩
 have H1:=qq (fun W hW=>vready_of hd0 _ ss W (hr.below hW) hl);have H2:=qq (fun W hW=>vover_of hd0 _ ss W (hr.below hW) hl);have H3:=qq (fun W hW=>vuniform_of hd0 _ ss W (hr.below hW) hl);have H4:=qq (fun W hW=>vcounted_of hd0 _ ss W (hr.below hW) hl);rw[g1] at H1;rw[g2] at H2;rw[g3] at H3
 have HK:=qq (Blk.fresh (w.alloc (.cells #[.int .i64 0,.int .i64 0,.int .i64 0,.int .i64 0,.int .i64 5,.int .i64 0,.int .i64 0,.int .i64 0,.int .i64 0,.int .i64 0,.int .i64 14,.int .i64 1] 55)) (vactC hd0 (.slice (some ⟨w.heap.size,0,none⟩) 2 2)) 51 (w.heap.size+1) (by simp));clear g1 g2 g3 hl hr hss;generalize cnt ss=f at*;unfold cntA at H4;dsimp only[vactV,vactC,hd0] at*
 go_enter Tryz.func49,Tryz.ntmps49;go_wp2_with fail;refine(H1.out _ (Below.refl _ _)).mono ?_;rintro e w1 ⟨rfl,hb1⟩;have q:=(HK.out.below hb1).cell;go_wp2_with fail;refine(H2.out _ hb1).mono ?_;rintro e w2 ⟨rfl,hb2⟩;have hb2:=below_then hb1 hb2;clear q;have q:=(HK.out.below hb2).cell;go_wp2_with fail;refine(H3.out _ hb2).mono ?_;rintro e w3 ⟨rfl,hb3⟩;have hb3:=below_then hb2 hb3;clear q
 have q:=(HK.out.below hb3).cell;go_wp2_with fail;refine(H4.out _ hb3).mono ?_;rintro e w4 ⟨rfl,hb4⟩;go_wp2_with fail;go_ret;exact⟨ret_bool (by simp[g4]),below_then hB (below_then hb3 hb4)⟩
def turnOk (x:MSeat) (s h:Int):Bool:=decide (x.s≠14) && mRight ⟨x.p,x.d,s,h⟩
theorem turnOk_some {x t:MSeat} {s h:Int} (ht:sturn x s h=some t):turnOk x s h=true∧t=⟨x.p,x.d,s,h⟩:=by
 obtain⟨h1,h2,h3⟩:=sturn_some ht;refine⟨?_,h2⟩;unfold turnOk;rw[←h2,h3];simp[h1]
theorem turnOk_none {x:MSeat} {s h:Int} (ht:sturn x s h=none):turnOk x s h=false:=by
 unfold sturn at ht;unfold turnOk;split at ht
 · rename_i hn
   rcases hn with hn | hn
   · simp[hn]
   · simp[hn]
 · cases ht
theorem rturned_of (x:MSeat) (f:SFact) (w:World):Calls Tryz.prog 92 #[.agg #[x.p,x.d,x.s,x.h],factV f] w (Makes (.tuple #[.agg #[x.p,x.d,f.st,f.hw],.bool (turnOk x f.st f.hw)]) w):=by
 have hR:=fun W=>gright_of ⟨x.p,x.d,f.st,f.hw⟩ W
 unfold turnOk;generalize mRight ⟨x.p,x.d,f.st,f.hw⟩=mr at*;dsimp only[seatV] at hR;obtain⟨k,an,aq,rg,nd,pt,pr,oc,dp,pa,st,hw,de,ex⟩:=f;obtain⟨p,d,s,hh⟩:=x;dsimp only[factV,factC] at*;have HR:=qq hR;clear hR
 have K0:=qq ((((Blk.fresh w #[p,d,s,hh] 164 _ rfl).alloc (.cells #[k,an,aq,rg,nd,pt,pr,oc,dp,pa,st,hw,de,.float .f64 ex] 42)).alloc (.cells #[.int .i64 0,.int .i64 0,.int .i64 0,.int .i64 0] 164)).alloc (.cells #[p,d,st,hw] 164))
 have K3:=qq (Blk.fresh (((w.alloc (.cells #[p,d,s,hh] 164)).alloc (.cells #[k,an,aq,rg,nd,pt,pr,oc,dp,pa,st,hw,de,.float .f64 ex] 42)).alloc (.cells #[.int .i64 0,.int .i64 0,.int .i64 0,.int .i64 0] 164)) #[.int .i64 p,.int .i64 d,.int .i64 st,.int .i64 hw] 164 (w.heap.size+1+1+1) (by simp))
 have K2:=qq ((Blk.fresh ((w.alloc (.cells #[p,d,s,hh] 164)).alloc (.cells #[k,an,aq,rg,nd,pt,pr,oc,dp,pa,st,hw,de,.float .f64 ex] 42)) #[.int .i64 0,.int .i64 0,.int .i64 0,.int .i64 0] 164 (w.heap.size+1+1) (by simp)).alloc (.cells #[p,d,st,hw] 164));by_cases h14:s=14
 · subst h14;go_enter Tryz.func92,Tryz.ntmps92;go_wp2_with fail;go_region
   all_goals go_wp2_with fail
   all_goals exact bodyPost_ret (v:=.tuple #[.agg #[p,d,st,hw],.bool false]) (by simp[results,Tryz.results92,go_sem]) rfl ⟨rfl,by go_grown⟩
 · have t14:(s !=14)=true:=by simpa using h14
   rw[show decide (s≠14)=true by simpa using h14,Bool.true_and];clear h14;go_enter Tryz.func92,Tryz.ntmps92;go_wp2_with fail
   go_region_with (go_at_call 201;refine(HR.out _).mono ?_;rintro e w1 ⟨rfl,hb1⟩;have B1:Below w.heap.size w w1:=below_then (by go_grown) hb1;have hz1:=hb1.size;simp only[World.size_alloc,World.size_drew] at hz1;have L2:=qq ((K2.out.below (by go_grown)).below hb1);have L3:=qq ((K3.out.below (by go_grown)).below hb1);have L0:=qq ((K0.out.below (by go_grown)).below hb1);obtain⟨q2,f2⟩:=L2.out.out;obtain⟨q3,f3⟩:=L3.out.out;obtain⟨q0,f0⟩:=L0.out.out)
   all_goals go_wp2_with fail
   all_goals (refine bodyPost_ret (v:=.tuple #[.agg #[p,d,st,hw],.bool mr]) (by simp[results,Tryz.results92,go_sem,q2,f2]) rfl ⟨rfl,?_⟩)
   all_goals exact(((B1.setCell (p:=⟨w.heap.size+1+1,0,none⟩) (by simp;omega) _).setCell (p:=⟨w.heap.size+1+1,1,none⟩) (by simp;omega) _).setCell (p:=⟨w.heap.size+1+1,2,none⟩) (by simp;omega) _).setCell (p:=⟨w.heap.size+1+1,3,none⟩) (by simp;omega) _
theorem zip_set {α β:Type}:∀(l:List α) (r:List β) (i:Nat) (a:α) (b:β),(l.set i a).zip (r.set i b)=(l.zip r).set i (a,b)
 | [],r,i,a,b=>by simp
 | x::t,[],i,a,b=>by simp
 | x::t,y::u,0,a,b=>rfl
 | x::t,y::u,i+1,a,b=>by simp only[List.set_cons_succ,List.zip_cons_cons];rw[zip_set t u i a b]
theorem zip_len {l:List SAct} {r:List Value} (h:r.length=l.length):(l.zip r).length=l.length:=by rw[List.length_zip,h,Nat.min_self]
theorem act_set {w : World} {B : Nat} {T : TypeId} {g cap n : Nat} {al : List SAct} {rv : List Value} (hl : rv.length = al.length) (h : w.ownsRow B T 8 (.slice (some ⟨g, 0, none⟩) n cap) n (actsL al rv)) (i c : Nat) (hc : c < 8) (a a' : SAct) (v v' : Value) (ha : al[i]? = some a) (hv : rv[i]? = some v) (x : Value) (hx : actL a' v' = (actL a v).set c x) :
    (w.setCell ⟨g,i*8+c,none⟩ x).ownsRow B T 8 (.slice (some ⟨g,0,none⟩) n cap) n (actsL (al.set i a') (rv.set i v')):=by
 have hi:=(List.getElem?_eq_some_iff.1 ha).1;have hn:al.length=n:=by have:=h.1;unfold actsL at this;rw[flat_length _ 8 actL_len,zip_len hl] at this;omega
 have h2:=row_set h (i*8+c) x (by omega);unfold actsL at h2⊢;rw[zip_set,←flat_set (fun x:SAct×Value=>actL x.1 x.2) 8 actL_len (al.zip rv) i c (by rw[zip_len hl];exact hi) hc x (a',v') (by
   have h3:=(List.getElem?_eq_some_iff.1 ha).2;have h4:=(List.getElem?_eq_some_iff.1 hv).2;simp only[List.getElem_zip,h3,h4];exact hx)]
 exact h2
theorem RStoreAt.parts_in {R:RLoc} {S:Sto} {w w':World} (h:RStoreAt R S w) (ps:List SPart) (hz:w.heap.size≤w'.heap.size) (he:∀k,R.pv.ownBlock≠some k→k<w.heap.size→w'.heap[k]? =w.heap[k]?) (hrow:w'.ownsRow 0 166 7 R.pv ps.length (partsL ps)):RStoreAt R {S with parts:=ps} w':=by
 have hn:=h.ne_top;exact⟨h.blk.same hz (he _ hn.2.1 h.blk.lt),row_heap h.acts (fun k hk=>he k (hn.2.2 k hk) (h.acts.lt k hk).2),hrow,h.len,fun i v a hv ha=>row_heap (h.regs i v a hv ha) (fun k hk=>he k (h.ne_regs hv k hk).2.2 ((h.regs i v a hv ha).lt k hk).2),h.once⟩
theorem RStoreAt.parts_to {R:RLoc} {S:Sto} {w w':World} (h:RStoreAt R S w) (pv':Value) (ps:List SPart) (hz:w.heap.size≤w'.heap.size) (he:∀k,R.pv.ownBlock≠some k→k≠R.sb→k<w.heap.size→w'.heap[k]? =w.heap[k]?) (hblk:Blk w' R.sb #[S.node,S.next,R.av,pv']) (hrow:w'.ownsRow 0 166 7 pv' ps.length (partsL ps)) (hm:Moved R.foot R.pv pv'):RStoreAt ⟨R.sb,R.av,pv',R.rv⟩ {S with parts:=ps} w':=by
 have hn:=h.ne_top;refine⟨hblk,row_heap h.acts (fun k hk=>he k (hn.2.2 k hk) (fun e=>hn.1 (by rw[hk,e])) (h.acts.lt k hk).2),hrow,h.len,fun i v a hv ha=>row_heap (h.regs i v a hv ha) (fun k hk=>he k (h.ne_regs hv k hk).2.2 (h.ne_regs hv k hk).1 ((h.regs i v a hv ha).lt k hk).2),?_⟩;obtain⟨h1,h2,h3,h4,h5,h6⟩:=rfoot_nodup.1 h.once;rw[rfoot_nodup];rcases hm with e | ⟨m,e,hF⟩
 · exact⟨h1,by rw[e];exact h2,h3,h4,fun k hk=>⟨by rw[e];exact(h5 k hk).1,(h5 k hk).2⟩,fun k hk=>h6 k (by rw[←e];exact hk)⟩
 · rw[RLoc.mem] at hF;refine⟨h1,?_,h3,h4,fun k hk=>⟨?_,(h5 k hk).2⟩,fun k hk=> ?_⟩
   · rw[e];intro e';injection e' with e';exact hF (.inl e')
   · rw[e];intro e';injection e' with e';subst e';exact hF (.inr (.inl hk))
   · rw[e] at hk;injection hk with hk;subst hk;exact fun hb=>hF (.inr (.inr (.inr hb)))
theorem rmem_pv {R:RLoc} {v':Value} {n:Nat} (hm:v'.ownBlock=R.pv.ownBlock∨∃m,v'.ownBlock=some m∧n≤m):∀k∈(RLoc.mk R.sb R.av v' R.rv).foot,k∈R.foot∨n≤k:=by
 intro k hk;rw[RLoc.mem] at hk⊢;rcases hk with h | h | h | h
 · exact .inl (.inl h)
 · exact .inl (.inr (.inl h))
 · rcases hm with e | ⟨m,e,hl⟩
   · exact .inl (.inr (.inr (.inl (e.symm.trans h))))
   · rw[e] at h;injection h with h;subst h;exact .inr hl
 · exact .inl (.inr (.inr (.inr h)))
theorem rjoin_goes {R : RLoc} {S : Sto} {w W w2 : World} {v2 : Value} {p : SPart} (h : RStoreAt R S W) (hb : Below w.heap.size w W) (hg : W.grownBy w2 R.pv.ownBlock) (ho : w2.ownsRow 0 166 7 v2 (S.parts.length + 1) (partsL S.parts ++ partL p)) (hat : v2.ownBlock = R.pv.ownBlock ∨ v2.ownBlock = some W.heap.size) :
    RGoes R {S with parts:=S.parts ++ [p]} w (w2.setCell ⟨R.sb,3,none⟩ v2):=by
 have hn:=h.ne_top;have hm:Moved R.foot R.pv v2:=hat.imp id (fun e=>⟨_,e,fun hk=>by have:=h.lt _ hk;omega⟩);have hv2:v2.ownBlock≠some R.sb:=by
  rcases hat with e | e
  · rw[e];exact hn.2.1
  · rw[e];intro e';injection e' with e';have:=h.blk.lt;omega
 have hblk:Blk w2 R.sb #[S.node,S.next,R.av,R.pv]:=h.blk.same hg.size (hg.block _ h.blk.lt (fun e=>hn.2.1 e.symm));refine⟨⟨R.sb,R.av,v2,R.rv⟩,rfl,h.parts_to v2 _ (by simpa using hg.size) (fun k hk hs hlt=> ?_) ?_ ?_ hm,?_⟩
 · rw[Below.heap_setCell _ _ _ _ hs];exact hg.block k hlt (fun e=>hk e.symm)
 · exact hblk.set' 3 (by simp) v2
 · rw[List.length_append];refine row_heap ?_ (fun k hk=>Below.heap_setCell _ _ _ _ (fun e=>hv2 (by rw[hk,e])));unfold partsL at ho⊢;rw[List.flatMap_append];simpa using ho
 · refine((Goes.of_below hb).trans ((Goes.grown hg (fun k hk=>RLoc.mem.2 (.inr (.inr (.inl hk))))).trans (Goes.setCell R.sb 3 v2 (RLoc.mem.2 (.inl rfl))))).change (fun k hk=> ?_);rcases rmem_pv (n:=W.heap.size) (hat.imp id (fun e=>⟨_,e,Nat.le_refl _⟩)) k hk with h1 | h1
   · exact .inl h1
   · exact .inr (Nat.le_trans hb.size h1)
theorem rseat_part_goes {R:RLoc} {S:Sto} {w w2:World} {g cap i:Nat} {p:SPart} (h:RStoreAt R S w) (hb:Below w.heap.size w w2) (hv:R.pv=.slice (some ⟨g,0,none⟩) S.parts.length cap) (hp:S.parts[i]? =some p) (t:MSeat):RGoes R {S with parts:=S.parts.set i {p with seat:=t}} w (putSeat4 w2 g (i*7+3) t):=by
 have h2:=h.below hb;have hrow:=h2.parts;rw[hv] at hrow;have hown:R.pv.ownBlock=some g:=by rw[hv];rfl
 refine⟨R,rfl,h2.parts_in _ (by rw[size_seat];exact Nat.le_refl _) (fun k hk _=>heap_seat _ _ _ _ _ (fun e=>hk (by rw[hown,e]))) ?_,(Goes.of_below hb).trans (Goes.seat g _ t (RLoc.mem.2 (.inr (.inr (.inl hown)))))⟩;rw[hv,List.length_set];exact part_seat hrow i p hp t
theorem rrg_part_goes {R:RLoc} {S:Sto} {w w2:World} {g cap i:Nat} {p:SPart} (h:RStoreAt R S w) (hb:Below w.heap.size w w2) (hv:R.pv=.slice (some ⟨g,0,none⟩) S.parts.length cap) (hp:S.parts[i]? =some p) (r:Int):RGoes R {S with parts:=S.parts.set i {p with rg:=r}} w (w2.setCell ⟨g,i*7+2,none⟩ (.int .i64 r)):=by
 have h2:=h.below hb;have hrow:=h2.parts;rw[hv] at hrow;have hown:R.pv.ownBlock=some g:=by rw[hv];rfl
 have hi:=(List.getElem?_eq_some_iff.1 hp).1;have he:=(List.getElem?_eq_some_iff.1 hp).2;refine⟨R,rfl,h2.parts_in _ (by simp) (fun k hk _=>Below.heap_setCell _ _ _ _ (fun e=>hk (by rw[hown,e]))) ?_,(Goes.of_below hb).trans (Goes.setCell g _ _ (RLoc.mem.2 (.inr (.inr (.inl hown)))))⟩;rw[hv,List.length_set];have hr:=row_set hrow (i*7+2) (.int .i64 r) (by omega)
 rw[show(partsL S.parts).set (i*7+2) (.int .i64 r)=partsL (S.parts.set i {p with rg:=r}) from flat_set partL 7 partL_len _ i 2 hi (by decide) _ _ (by rw[he];rfl)] at hr;exact hr
theorem rdec_goes {R:RLoc} {S:Sto} {w w2:World} {g cap i:Nat} {a:SAct} (h:RStoreAt R S w) (hb:Below w.heap.size w w2) (hv:R.av=.slice (some ⟨g,0,none⟩) S.acts.length cap) (ha:S.acts[i]? =some a) (d:Int):RGoes R {S with acts:=S.acts.set i {a with de:=d}} w (w2.setCell ⟨g,i*8+6,none⟩ (.int .i64 d)):=by
 have h2:=h.below hb;have hown:R.av.ownBlock=some g:=by rw[hv];rfl
 have hn:=h.ne_top;obtain⟨v,hvi⟩:∃v,R.rv[i]? =some v:=⟨_,List.getElem?_eq_getElem (by rw[h.len];exact(List.getElem?_eq_some_iff.1 ha).1)⟩
 have hset:R.rv.set i v=R.rv:=by
  obtain⟨hi,he⟩:=List.getElem?_eq_some_iff.1 hvi;rw[←he,List.set_getElem_self]
 refine⟨R,rfl,⟨h2.blk.same (by simp) (Below.heap_setCell _ _ _ _ (fun e=>hn.1 (by rw[hown,e]))),?_,row_heap h2.parts (fun k hk=>Below.heap_setCell _ _ _ _ (fun e=>hn.2.2 g hown (by rw[hk,e]))),by rw[List.length_set];exact h.len,fun j u b hu hb'=> ?_,h.once⟩,(Goes.of_below hb).trans (Goes.setCell g _ _ (RLoc.mem.2 (.inr (.inl hown))))⟩
 · have hr:=h2.acts;rw[hv] at hr⊢;have:=act_set h.len hr i 6 (by decide) a {a with de:=d} v v ha hvi (.int .i64 d) rfl;rw[hset] at this;rw[List.length_set];exact this
 · have hb2:(S.acts.set i {a with de:=d})[j]? =some b:=hb';have key:∀c,S.acts[j]? =some c→c.regs=b.regs→(w2.setCell ⟨g,i*8+6,none⟩ (.int .i64 d)).ownsRow 0 199 6 u b.regs.length (regsL b.regs):=fun c hc hcb=>by
    have:=h2.regs j u c hu hc;rw[hcb] at this;exact row_heap this (fun k hk=>Below.heap_setCell _ _ _ _ (fun e=>(h.ne_regs hu k hk).2.1 (by rw[hown,e])))
   by_cases hij:i=j
   · subst hij;rw[List.getElem?_set_self (List.getElem?_eq_some_iff.1 ha).1] at hb2;injection hb2 with hb2
     exact key a ha (by rw[←hb2])
   · rw[List.getElem?_set_ne hij] at hb2;exact key b hb2 rfl
end Go.Proofs.YtlkajejbfojkeaaGreatDoor
