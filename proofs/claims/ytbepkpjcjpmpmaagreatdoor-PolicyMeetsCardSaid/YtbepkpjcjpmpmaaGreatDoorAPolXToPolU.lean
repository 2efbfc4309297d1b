/- PolX, TolA, PolN, PolU -/
import Derived.Test.YtbepkpjcjpmpmaaGreatDoorADnFToPolT
import Derived.Shelf.Small.Wraps
set_option linter.unusedSimpArgs false
set_option linter.unusedVariables false
set_option maxRecDepth 100000
set_option maxHeartbeats 16000000
namespace Go.Proofs.YtbepkpjcjpmpmaaGreatDoor
open Go.RowKit Go.Shelf
abbrev exZ:Array Value:= #[.int .i64 0,.string ⟨#[]⟩,.bool false,.slice none 0 0]
theorem catch_idle_ex (d x e : Addr) (w : World) (hd : w.cell? d = some (.bool true)) :
    CallsD Tryz.prog 60 #[.pointer (some d),.pointer (some x),.pointer (some e)] .returning w fun en u' w'=>en=.returned (.tuple #[])∧u'=.returning∧w'=w:=by
 refine callsD_of_wpS Tryz.func60 rfl fun c₀ cs hu=> ?_
 apply wpS_seq;apply wpS_region;simp[wpOpsS,go_sem,recoverD,hu,Tryz.ntmps60,Exit.thenS];apply wpS_seq;apply wpS_region;simp[wpOpsS,go_sem,hd,Exit.thenS];refine wpS_cond (t:=false) (by simp[Act.eval,Array.replicate]) ?_;simp only[Bool.false_eq_true,if_false];refine wpS_of_wp (wp_skip ?_)
 cases c₀
 simp_all [bodyPostS,results,Tryz.results60]
theorem catch_took_ex (D X E : Nat) (n : Int) (hn : 1 ≤ n ∧ n ≤ 14) (ea : Int → Addr) (older : List PanicEntry) (w : World) (hd : Blk w D #[.bool false]) (hxh : w.heap[X]? = some (.cells exZ 27 (0, 0))) (hz : Blk w E #[.nilIface]) (hne : X ≠ E) (he : Errs ea w) :
    CallsD Tryz.prog 60 #[.pointer (some ⟨D,0,none⟩),.pointer (some ⟨X,0,none⟩),.pointer (some ⟨E,0,none⟩)] (.panicking ({v:=errV (ea n),recovered:=false}::older)) w fun en u' w'=>
     en=.returned (.tuple #[])∧u'=.panicking ({v:=errV (ea n),recovered:=true}::older)∧Blk w' X exZ∧Blk w' E #[errV (ea n)]∧∀m,m≤X→m≤E→m≤w.heap.size→Below m w w':=by
 have HT:=qq (fun W hW=>told_of n hn ea W hW);have HE:=qq he;have hd0:w.cell? ⟨D,0,none⟩=some (.bool false):=hd.cell 0;have hx:Blk w X exZ:=blk_hp hxh;have HXH:=qq hxh;have HZ:=qq hz;have hne2:E≠X:=fun e=>hne e.symm
 clear he hd hx hz hn hxh;refine callsD_of_wpS Tryz.func60 rfl fun c₀ cs hu=> ?_
 apply wpS_seq;apply wpS_region;simp[wpOpsS,go_sem,recoverD,hu,Tryz.ntmps60,Exit.thenS];apply wpS_seq;apply wpS_region;simp[wpOpsS,go_sem,hd0,Exit.thenS];refine wpS_cond (t:=true) (by simp[Act.eval,Array.replicate]) ?_;simp only[if_true];refine wpS_of_wp ?_;go_wp2_with fail
 simp only[Array.replicate_succ,Array.replicate_zero,List.push_toArray,List.nil_append,List.cons_append,List.append_toArray,List.setIfInBounds_toArray,List.set_cons_zero,List.set_cons_succ];have HB0:Below w.heap.size w (w.alloc (.cells exZ 27)):=(Below.refl _ _).alloc (Nat.le_refl _) _
 refine reg_start2 (fun w'=>Blk w' w.heap.size exZ) (fun w'=>Below w.heap.size w w') (by kernel_rfl) (Blk.fresh w exZ 27 _ rfl).drew (bel_drew HB0) ?_;rintro w1 hHeld hb1;refine takeM (d:=some 8) 0 rfl rfl hHeld (fun w' hS'=>by have qA:=hS'.cell;clear hS';go_simp;(try rfl)) ?_;simp only[puts];refine takeM (d:=some 9) 1 rfl rfl hHeld (fun w' hS'=>by clear hS';go_simp;(try rfl)) ?_;simp only[puts]
 refine one_M 2 (by kernel_rfl) ?_;refine wpOp_call (d:=some 10) 2 52 _ _ [errV (ea n)] rfl rfl rfl (enters_of Tryz.func52 (by kernel_rfl) rfl) (by rfl) (by rfl) ?_;refine(HT.out _ (HE.out.below hb1)).mono ?_;rintro e w2 ⟨rfl,hb2⟩;have hb12:=below_then hb1 hb2;refine ret_S (hHeld.below hb2) (fun hHeld=> ?_);simp only[puts];refine one_M 3 (by kernel_rfl) ?_
 refine row_M 3 27 _ _ rfl rfl rfl X exZ exZ 27 (hp_be HXH.out hb12) rfl rfl (by kernel_rfl) rfl (by simp[exZ,Value.oneCell']) ?_;intro w3 hx3 hg3;have hXl:=(Array.getElem?_eq_some_iff.1 HXH.out).1;have hZ3:Blk w3 E #[.nilIface]:=(HZ.out.below hb12).gr hg3 hne;refine⟨hHeld.gr hg3 (by omega),fun hHeld=> ?_⟩;have z0:w3.cell? ⟨E,0,none⟩=some .nilIface:=hZ3.cell 0
 have z1:w3.frozen? ⟨E,0,none⟩=false:=hZ3.free 0;refine last_S 4 (w3.setCell ⟨E,0,none⟩ (errV (ea n))) rfl rfl (by clear hHeld;go_simp;(try rfl)) ?_;have hx4:Blk (w3.setCell ⟨E,0,none⟩ (errV (ea n))) X exZ:=hx3.same (by simp) (Below.heap_setCell _ _ _ _ hne);have hz4:Blk (w3.setCell ⟨E,0,none⟩ (errV (ea n))) E #[errV (ea n)]:=by
  have:=hZ3.set' 0 (by simp) (errV (ea n));simpa using this
 have hb4:∀m,m≤X→m≤E→m≤w.heap.size→Below m w (w3.setCell ⟨E,0,none⟩ (errV (ea n))):=fun m h1 h2 h3=>((hb12.mono h3).grown hg3 (Nat.le_trans h3 hb12.size) (fun j hj=>by injection hj with hj;omega)).setCell (p:=⟨E,0,none⟩) h2 _
 generalize w3.setCell ⟨E,0,none⟩ (errV (ea n))=w4 at*;clear hHeld;go_wp2_with fail;simp[bodyPostS,results,Tryz.results60];exact⟨hx4,hz4,hb4⟩
theorem try_gives_ex (p : Addr) (e0 : PE) (Rl : Option Addr → World → Prop) (w : World) (h : ∀ W, Below w.heap.size w W → w.heap.size + 3 ≤ W.heap.size → Calls Tryz.prog 39 #[.pointer (some p)] W (fun e w' => ∃ a c, e = .returned (.agg (exA e0 a c)) ∧ Rl a w' ∧ Below W.heap.size W w'))
    (hR:∀a (W W':World),Rl a W→W.heap.size≤W'.heap.size→(∀k,k<W.heap.size→k<w.heap.size∨w.heap.size+3≤k→W'.heap[k]? =W.heap[k]?)→Rl a W'):
    Calls Tryz.prog 38 #[.func (.func 39) #[] #[.pointer (some p)]] w (fun e w'=>∃a c,e=.returned (.tuple #[.agg (exA e0 a c),.nilIface])∧Rl a w'∧Below w.heap.size w w'):=by
 have hmf:∀(fn:Fn) (first cap:Array Value) (w:World),(Instr.makeFunc fn first cap).run Tryz.prog w=.ok (.func fn first cap) w:=fun _ _ _ _=>rfl
 have H:=qq h;have HRL:=qq hR;clear h hR;go_enter_defers Tryz.func38,Tryz.ntmps38;go_wp2_with fail;refine(H.out _ (by go_grown) (by simp)).mono ?_;rintro e w1 ⟨va,vc,rfl,hrl,hb1⟩;have hb01:Below w.heap.size w w1:=below_then (by go_grown) hb1;have hxh:w1.heap[w.heap.size]? =some (.cells exZ 27 (0,0)):=(hb1.block _ (by simp;omega)).trans (hp_al (hp_al (hp_new _ rfl) _) _)
 have HE:=(((Blk.fresh (w.alloc (.cells exZ 27)) #[.nilIface] 31 (w.heap.size+1) (by simp)).below (by go_grown)).below hb1:Blk w1 (w.heap.size+1) _)
 have HD:=((Blk.fresh ((w.alloc (.cells exZ 27)).alloc (.cells #[.nilIface] 31)) #[.bool false] 4 (w.heap.size+1+1) (by simp)).below hb1:Blk w1 (w.heap.size+1+1) _)
 have HXH:=qq hxh;have HEE:=qq HE;have HDD:=qq HD;have HB1:=qq hb01;have HRR:=qq hrl;clear hxh HE HD hrl hb1 hb01;have hsz1:=HB1.out.size;obtain⟨OP,nm,opt,kids⟩:=e0;unfold exA;dsimp only;go_wp2_with (refine row_go 27 (.tmp 2) (.tmp 7) rfl rfl w.heap.size #[.int .i64 OP,.string ⟨nm.toArray⟩,.bool opt,.slice va kids.len vc] exZ 27 HXH.out rfl rfl (by kernel_rfl) rfl (by simp[Value.oneCell']) ?_)
 intro w2 hx2 hg2;have HE2:=qq (HEE.out.gr hg2 (by omega));have HD2:=qq (HDD.out.gr hg2 (by omega));obtain⟨lx,qx,fx⟩:=hx2;have x0:w2.cell? ⟨w.heap.size,0,none⟩=some (.int .i64 OP):=qx 0;have x1:w2.cell? ⟨w.heap.size,1,none⟩=some (.string ⟨nm.toArray⟩):=qx 1;have x2:w2.cell? ⟨w.heap.size,2,none⟩=some (.bool opt):=qx 2;have x3:w2.cell? ⟨w.heap.size,3,none⟩=some (.slice va kids.len vc):=qx 3
 have y0:w2.frozen? ⟨w.heap.size,0,none⟩=false:=fx 0;have y1:w2.frozen? ⟨w.heap.size,1,none⟩=false:=fx 1;have y2:w2.frozen? ⟨w.heap.size,2,none⟩=false:=fx 2;have y3:w2.frozen? ⟨w.heap.size,3,none⟩=false:=fx 3;have e0:w2.cell? ⟨w.heap.size+1,0,none⟩=some .nilIface:=HE2.out.cell 0;have e1:w2.frozen? ⟨w.heap.size+1,0,none⟩=false:=HE2.out.free 0
 have d0:w2.cell? ⟨w.heap.size+1+1,0,none⟩=some (.bool false):=HD2.out.cell 0;have d1:w2.frozen? ⟨w.heap.size+1+1,0,none⟩=false:=HD2.out.free 0;clear qx fx;go_wp2_with fail;refine leaves_cons (f:=60) (args:= #[.pointer (some ⟨w.heap.size+1+1,0,none⟩),.pointer (some ⟨w.heap.size,0,none⟩),.pointer (some ⟨w.heap.size+1,0,none⟩)]) (by simp) (by simp[go_sem]) ?_
 refine(catch_idle_ex _ _ _ _ (by simp[go_sem,d0,x0,e0])).mono ?_;rintro e u' w'' ⟨rfl,rfl,rfl⟩;simp[Leaves,settle,results,Tryz.results38,go_sem,d0,x0,x1,x2,x3,e0,d1,y0,y1,y2,y3,e1,exA];refine⟨HRL.out _ _ _ HRR.out (by have:=hg2.size;simpa using this) (fun k hkl hk=> ?_),?_⟩
 · rw[Below.heap_setCell _ _ _ _ (by(try dsimp only);omega),Below.heap_setCell _ _ _ _ (by(try dsimp only);omega),Below.heap_setCell _ _ _ _ (by(try dsimp only);omega),Below.heap_setCell _ _ _ _ (by(try dsimp only);omega),Below.heap_setCell _ _ _ _ (by(try dsimp only);omega),Below.heap_setCell _ _ _ _ (by(try dsimp only);omega)];exact hg2.block k hkl (fun e=>by injection e with e;omega)
 · exact((((((bel_gr HB1.out hg2 (Nat.le_refl _)).setCell (p:=⟨w.heap.size+1+1,0,none⟩) (by dsimp only;omega) _).setCell (p:=⟨w.heap.size,0,none⟩) (Nat.le_refl _) _).setCell (p:=⟨w.heap.size,1,none⟩) (Nat.le_refl _) _).setCell (p:=⟨w.heap.size,2,none⟩) (Nat.le_refl _) _).setCell (p:=⟨w.heap.size,3,none⟩) (Nat.le_refl _) _).setCell (p:=⟨w.heap.size+1,0,none⟩) (by dsimp only;omega) _
theorem try_dies_ex (p : Addr) (n : Int) (hn : 1 ≤ n ∧ n ≤ 14) (ea : Int → Addr) (w : World) (he : Errs ea w) (h : ∀ W, Below w.heap.size w W → Calls Tryz.prog 39 #[.pointer (some p)] W (Fails (errV (ea n)) W)) :
    Calls Tryz.prog 38 #[.func (.func 39) #[] #[.pointer (some p)]] w (Makes (.tuple #[.agg exZ,errV (ea n)]) w):=by
 have hmf:∀(fn:Fn) (first cap:Array Value) (w:World),(Instr.makeFunc fn first cap).run Tryz.prog w=.ok (.func fn first cap) w:=fun _ _ _ _=>rfl
 have H:=qq h;have HR:=qq he;clear h he;go_enter_defers Tryz.func38,Tryz.ntmps38;go_wp2_with fail;refine(H.out _ (by go_grown)).mono ?_;rintro e w1 ⟨rfl,hb1⟩;have HB:Below w.heap.size w w1:=below_then (by go_grown) hb1;have hxh:w1.heap[w.heap.size]? =some (.cells exZ 27 (0,0)):=(hb1.block _ (by simp;omega)).trans (hp_al (hp_al (hp_new _ rfl) _) _)
 have HE:=(((Blk.fresh (w.alloc (.cells exZ 27)) #[.nilIface] 31 (w.heap.size+1) (by simp)).below (by go_grown)).below hb1:Blk w1 (w.heap.size+1) _)
 have HD:=((Blk.fresh ((w.alloc (.cells exZ 27)).alloc (.cells #[.nilIface] 31)) #[.bool false] 4 (w.heap.size+1+1) (by simp)).below hb1:Blk w1 (w.heap.size+1+1) _)
 have HER:=HR.out.below HB;refine leaves_cons (f:=60) (args:= #[.pointer (some ⟨w.heap.size+1+1,0,none⟩),.pointer (some ⟨w.heap.size,0,none⟩),.pointer (some ⟨w.heap.size+1,0,none⟩)]) (by simp) (by simp[go_sem]) ?_;refine(catch_took_ex _ _ _ n hn ea _ _ HD hxh HE (by omega) HER).mono ?_;rintro e u' w'' ⟨rfl,rfl,hx2,he2,hb2⟩;have x0:w''.cell? ⟨w.heap.size,0,none⟩=some (.int .i64 0):=hx2.cell 0
 have x1:w''.cell? ⟨w.heap.size,1,none⟩=some (.string ⟨#[]⟩):=hx2.cell 1;have x2:w''.cell? ⟨w.heap.size,2,none⟩=some (.bool false):=hx2.cell 2;have x3:w''.cell? ⟨w.heap.size,3,none⟩=some (.slice none 0 0):=hx2.cell 3;have e2:w''.cell? ⟨w.heap.size+1,0,none⟩=some (errV (ea n)):=he2.cell 0;simp[Leaves,settle,results,Tryz.results38,go_sem,x0,x1,x2,x3,e2,exZ]
 exact⟨rfl,HB.trans (hb2 _ (Nat.le_refl _) (by omega) HB.size)⟩
def ExGives (e:PE) (w:World) (en:Ending) (w':World):Prop:=
 ∃a c,en=.returned (.agg (exA e a c))∧KC w.heap.size w'.heap.size w' e.kids a∧Below w.heap.size w w'
theorem infoREx:(Tryz.prog.info? 38).map (fun i=>(i.zero,i.size,i.bytes))=some (some (.agg #[.int .i64 0,.string ⟨#[]⟩,.bool false,.slice none 0 0]),4,56):=by kernel_rfl
theorem told_go (g : Nat) : ∀ (e : PE) (a : Option Addr) (c B E : Nat) (w : World), e.kids.sz < g → e.kids.len ≤ 100000 → e.kids.small → KC B E w e.kids a → E ≤ w.heap.size →
    Calls Tryz.prog 13 #[.agg (exA e a c)] w (ExGives e w):=by
 induction g with
 | zero=>intro e a c B E w hg;omega
 | succ g ih=>
  rintro⟨OP,nm,opt,kids⟩ a c B E w hg hkl hsm hK hE;unfold exA;dsimp only at hg hkl hsm hK⊢;obtain⟨i0,ei,ez,es,eb⟩:=info_parts infoREx;have IH:=qq ih;have HKC:=qq (fun W (hW:Below w.heap.size w W)=>hK.below hE hW);have HSM:=qq hsm;have HG:=qq hg;have HE0:E≤w.heap.size:=hE;obtain⟨n,hn⟩:∃n,n=kids.len:=⟨_,rfl⟩
  have HN:=qq hn;have HRES:Hid (∀a' c' w',KC w.heap.size w'.heap.size w' kids a'→Below w.heap.size w w'→ExGives ⟨OP,nm,opt,kids⟩ w (.returned (.agg #[OP,.string ⟨nm.toArray⟩,.bool opt,.slice a' n c'])) w'):=qq (fun a' c' w' h1 h2=>⟨a',c',by rw[hn];rfl,h1,h2⟩);rw[←hn] at hkl⊢;generalize ExGives ⟨OP,nm,opt,kids⟩ w=R at HRES⊢;clear hK hE hsm hg ih hn;go_enter Tryz.func13,Tryz.ntmps13;go_wp2_with fail
  go_loopw [16] (fun cc wr=>∃(i:Nat) (acc:PF) (ao:Option Addr) (co:Nat),i≤n∧cc=.int .i64 (i:Int)∧Hid (acc=kids.upTo i)∧Hid (KidsIn (w.heap.size+1+1+1) 38 wr acc (.slice ao i co) i)∧Hid (Blk wr (w.heap.size+1+1) #[OP,.string ⟨nm.toArray⟩,.bool opt,.slice ao i co])∧Hid (Blk wr w.heap.size #[OP,.string ⟨nm.toArray⟩,.bool opt,.slice a n c])∧Hid (wr.heap[w.heap.size+1]? =some (.cells exZ 38 (0,0)))∧Hid (Below w.heap.size w wr)) (fun cc _=>n - (intOf cc).toNat)
  case atStart=>exact⟨0,.nil,none,0,by omega,by first | rfl | go_num,qq (by cases kids<;>rfl),qq (KidsIn.nil _ _ _),qq (Blk.fresh _ _ _ _ (by simp)),qq (((Blk.fresh w _ _ _ rfl).alloc _).alloc _),qq (hp_al (hp_new _ (by simp)) _),qq (by go_grown)⟩
  case round=>
   obtain⟨i,acc,ao,co,hi,rfl,HAC,HO,HT,HX,HP,HB⟩:=hrel;have hi0:(0:Int)≤(i:Int):=by omega
   have hwr:=HB.out.size;have hpl:=(Array.getElem?_eq_some_iff.1 HP.out).1;have htl:=HT.out.lt;by_cases hlt:i<n
   · have hi1:(i:Int)<(n:Int):=by omega
     obtain⟨k,hk⟩:=PF.at_lt kids i (by rw[←HN.out];exact hlt);have hne:kids≠.nil:=by rintro rfl;cases hk
     obtain⟨b,o,rfl,hbB,hbE,hkt⟩:=HKC.out _ HB.out hne;obtain⟨c0,c1,c2,ka,kc,c3,hkk⟩:=KT.at kids i k b o hk hkt;have hbw:b<wr.heap.size:=by omega
     have hsm:=PF.small_at kids i k HSM.out hk;have HA2:Hid (acc.snoc k=kids.upTo (i+1)):=qq (by rw[HAC.out,PF.upTo_at kids i k hk]);have HCK:=qq (fun W (hb:Below wr.heap.size wr W)=>IH.out k ka kc B E W (by have:=PF.at_sz kids i k hk;have:=HG.out;omega) hsm.2.1 hsm.2.2 (hkk.below (by omega) hb) (by have:=hb.size;omega));obtain⟨kop,knm,kopt,kkids⟩:=k;simp only[encStr] at c1
     dsimp only[exA] at c0 c1 c2 c3 HCK;clear hne hkt hkk hsm hk;go_wp2_with fail;have hba:Below wr.heap.size wr (wr.alloc (.cells #[kop,.string ⟨knm.toArray⟩,.bool kopt,.slice ka kkids.len kc] 27)):=(Below.refl _ _).alloc (Nat.le_refl _) _
     refine reg_startZ (fun w'=>Below w.heap.size w w'∧Blk w' (w.heap.size+1+1) #[OP,.string ⟨nm.toArray⟩,.bool opt,.slice ao i co]∧Blk w' wr.heap.size #[kop,.string ⟨knm.toArray⟩,.bool kopt,.slice ka kkids.len kc]) (fun w'=>Below wr.heap.size wr w') (by kernel_rfl) ⟨bel_drew (bel_alloc HB.out _),(HT.out.below hba).drew,(Blk.fresh wr _ _ _ rfl).drew⟩ (bel_drew hba) (fun x=>x==7) ?_
     rintro w1 hHeld hB1;refine takeX (d:=some 20) 0 rfl rfl hHeld (fun w' hS'=>by clear hS';go_simp;(try rfl)) ?_;simp only[puts];refine takeX (d:=some 21) 1 rfl rfl hHeld (fun w' hS'=>by have qA:=hS'.2.1.cell;clear hS';go_simp;(try rfl)) ?_;simp only[puts];refine takeX (d:=some 22) 2 rfl rfl hHeld (fun w' hS'=>by have qA:=hS'.2.2.cell;clear hS';go_simp;(try rfl)) ?_;simp only[puts]
     refine call_Z (d:=some 23) 3 13 _ _ [.agg #[kop,.string ⟨knm.toArray⟩,.bool kopt,.slice ka kkids.len kc]] rfl rfl rfl (enters_of Tryz.func13 (by kernel_rfl) rfl) (by rfl) (by rfl) ?_;refine(HCK.out w1 hB1).mono ?_;rintro e w2 ⟨a2,c2',rfl,hkc,hb2⟩;have hB2:=below_then hB1 hb2
     replace hHeld:Below w.heap.size w w2∧Blk w2 (w.heap.size+1+1) #[OP,.string ⟨nm.toArray⟩,.bool opt,.slice ao i co]∧Blk w2 wr.heap.size #[kop,.string ⟨knm.toArray⟩,.bool kopt,.slice ka kkids.len kc]:=⟨below_then hHeld.1 hb2,hHeld.2.1.below hb2,hHeld.2.2.below hb2⟩
     refine⟨_,rfl,.inr hHeld,?_⟩;unfold exA;simp only[puts];have HB1z:=hB1.size;have HKC2:=qq hkc;have HW2:=qq (⟨rfl,hB2⟩:w2=w2∧Below wr.heap.size wr w2);have hB3:Below wr.heap.size wr (w2.alloc (.cells #[kop,.string ⟨knm.toArray⟩,.bool kopt,.slice a2 kkids.len c2'] 38)):=bel_alloc hB2 _
     refine new_X (d:=some 24) 4 (.slice (some ⟨w2.heap.size,0,none⟩) 1 1) #[.int .i64 kop,.string ⟨knm.toArray⟩,.bool kopt,.slice a2 kkids.len c2'] 38 rfl rfl (by go_simp) ⟨bel_alloc hHeld.1 _,hHeld.2.1.alloc _,hHeld.2.2.alloc _⟩ ?_;intro hHeld kF;simp only[puts];have HO3:=qq (HO.out.below hB3);have HT3:=qq hHeld.2.1;have HX3:=qq (HX.out.below hB3);have HP3:=qq (hp_be HP.out hB3)
     have HO2:=qq (HO.out.below HW2.out.2);obtain⟨hacl,xs2,hrow2,hkl2⟩:=HO2.out;have h2z:=HW2.out.2.size
     refine app_X (d:=some 25) 5 rfl rfl rfl (.tmp 21) (.tmp 24) 36 rfl (w.heap.size+1+1+1) 38 i0 (.agg #[.int .i64 0,.string ⟨#[]⟩,.bool false,.slice none 0 0]) 4 56 Tryz.underlying36 ei ez es eb rfl (by decide) (.slice ao i co) i xs2 (by rfl) (row_al hrow2 _) ⟨w2.heap.size,0,none⟩ 1 1 (exL' ⟨kop,knm,kopt,kkids⟩ a2 c2') (by rfl) rfl (lit_cells kF) (by intro u hu;simp at hu;rcases hu with rfl | rfl | rfl | rfl<;>rfl) (by unfold maxLen;omega) (by omega) (by simp;omega) ?_
     intro v4 w5 hown hgrow hat;have HK4:=qq (KidsIn.more (e:=⟨kop,knm,kopt,kkids⟩) (B1:=w1.heap.size) hacl hrow2 hkl2 HKC2.out (by omega) (fun q hq=>by have:=(HO.out.lt q hq).2;omega) rfl hown hgrow hat);obtain⟨a4,c4,rfl⟩:=HK4.out.slice;have hgz:=hgrow.size;have hch:=fun q hq hne=>hgrow.block q hq hne
     have hgz':=hgz;simp only[World.size_alloc] at hgz' hch;have hBw5:Below w.heap.size w w5:=hHeld.1.grown hgrow (by simp;omega) (fun q hq=>by have:=(HO.out.lt q hq).1;omega);rw[HA2.out] at HK4;clear hown hgrow hat hrow2 hkl2 hacl;have HX5:=qq (Blk.same (HX3.out) hgz (hch _ (by omega) (fun hq=>by have:=(HO3.out.lt _ hq.symm).1;omega)))
     have HT5:=qq (Blk.same (HT3.out) hgz (hch _ (by omega) (fun hq=>by have:=(HO3.out.lt _ hq.symm).1;omega)));have HP5:Hid (w5.heap[w.heap.size+1]? =some (.cells exZ 38 (0,0))):=qq ((hch _ (by omega) (fun hq=>by have:=(HO3.out.lt _ hq.symm).1;omega)).trans HP3.out)
     replace hHeld:Below w.heap.size w w5∧Blk w5 (w.heap.size+1+1) #[OP,.string ⟨nm.toArray⟩,.bool opt,.slice ao i co]∧Blk w5 wr.heap.size #[kop,.string ⟨knm.toArray⟩,.bool kopt,.slice ka kkids.len kc]:=⟨hBw5,HT5.out,Blk.same hHeld.2.2 hgz (hch _ (by omega) (fun hq=>by have:=(HO.out.lt _ hq.symm).2;omega))⟩
     refine⟨.inr hHeld,?_⟩;simp only[puts];refine takeX (d:=some 26) 6 rfl rfl hHeld (fun w' hS'=>by clear hS';go_simp;(try rfl)) ?_;simp only[puts];refine set_X 7 (w5.setCell ⟨w.heap.size+1+1,3,none⟩ (.slice a4 (i+1) c4)) rfl rfl (by have qA:=HT5.out.cell;have fA:=HT5.out.free;clear hHeld;go_simp) (.inl rfl) ?_;refine doneX (by kernel_rfl) ?_ _
     have HTF:Hid (Blk (w5.setCell ⟨w.heap.size+1+1,3,none⟩ (.slice a4 (i+1) c4)) (w.heap.size+1+1) #[.int .i64 OP,.string ⟨nm.toArray⟩,.bool opt,.slice a4 (i+1) c4]):=qq (by
       have:=HT5.out.set' 3 (by simp) (.slice a4 (i+1) c4);simpa using this)
     have HXF:=qq (Blk.same (w':=w5.setCell ⟨w.heap.size+1+1,3,none⟩ (.slice a4 (i+1) c4)) HX5.out (by simp) (Below.heap_setCell _ _ _ _ (by dsimp only;omega)));have HPF:=qq (hp_st HP5.out (p:=⟨w.heap.size+1+1,3,none⟩) (by dsimp only;omega) (.slice a4 (i+1) c4));have HKF:=qq (HK4.out.set (p:=⟨w.heap.size+1+1,3,none⟩) (by dsimp only;omega) (.slice a4 (i+1) c4))
     have HBF:=qq (bel_set hBw5 (p:=⟨w.heap.size+1+1,3,none⟩) (by dsimp only;omega) (.slice a4 (i+1) c4));clear hHeld hB1 hB2 hB3 hba hBw5 hch hgz hgz' c0 c1 c2 c3;generalize w5.setCell ⟨w.heap.size+1+1,3,none⟩ (.slice a4 (i+1) c4)=w6 at*;go_wp2_with fail;go_roundw
     case rel=>exact⟨i+1,kids.upTo (i+1),a4,c4,by omega,by go_num,qq rfl,HKF,HTF,HXF,HPF,HBF⟩
     case measure=>simp[intOf];omega
   · obtain rfl:n=i:=by omega
     have HKC2:Hid (KC (w.heap.size+1+1+1) wr.heap.size wr kids ao):=qq (by have:=HO.out.kc (Nat.le_refl _);rwa[HAC.out,HN.out,PF.upTo_len] at this);obtain⟨lt,qt,ft⟩:=HT.out;go_wp2_with (refine row_go 38 (.tmp 2) (.tmp 28) rfl rfl (w.heap.size+1) #[.int .i64 OP,.string ⟨nm.toArray⟩,.bool opt,.slice ao n co] exZ 38 HP.out rfl rfl (by kernel_rfl) rfl (by simp[Value.oneCell']) ?_);intro w5 hb5 hg5
     have hz5:=hg5.size;have HF:=qq (HRES.out ao co w5 (HKC2.out.keep (by omega) hz5 (fun k hk1 hk2=>hg5.block k hk2 (fun e=>by injection e with e;omega))) (bel_gr HB.out hg5 (by omega)));clear qt ft;obtain⟨l5,q5,f5⟩:=hb5;go_wp2_with fail;exact bodyPost_ret (v:=.agg #[OP,.string ⟨nm.toArray⟩,.bool opt,.slice ao n co]) (by simp[results,Tryz.results13,go_sem,q5,f5]) rfl HF.out
shelf_lay Lays.n103 Nm 103 at Tryz as shCutPrefix
theorem cutp_of (s:PStr) (c:UInt8) (w:World):Calls Tryz.prog 84 #[.string ⟨s.toArray⟩,.string ⟨#[c]⟩] w (fun e w'=>e=.returned (.tuple #[.string ⟨((rHas c s).getD s).toArray⟩,.bool (rHas c s).isSome])∧w=w'):=by
 refine(Any.strings_CutPrefix shCutPrefix ⟨s.toArray⟩ ⟨#[c]⟩ w).mono ?_;rintro e w' ⟨rfl,rfl⟩;refine⟨?_,rfl⟩;have e1:Lib.hasPrefix s [c]=(rHas c s).isSome:=by
  cases s with
  | nil=>simp[rHas,Lib.hasPrefix]
  | cons x t=>
   unfold rHas;by_cases h:x=c
   · subst h;simp[Lib.hasPrefix]
   · have h':¬c=x:=fun e=>h e.symm
     simp[Lib.hasPrefix,List.isPrefixOf,h,h']
 have e2:Lib.trimPrefix s [c]=(rHas c s).getD s:=by
  unfold Lib.trimPrefix;rw[e1]
  cases s with
  | nil=>simp[rHas]
  | cons x t=>
   unfold rHas;by_cases h:x=c
   · subst h;simp
   · simp[h]
 have e3:(⟨s.toArray⟩:ByteArray).data.toList=s:=by simp
 have e4:(⟨#[c]⟩:ByteArray).data.toList=[c]:=rfl;rw[e3,e4,e1,e2]
def hasW (r:Option PStr) (rb:Nat) (w:World):World:=match r with | some t=>w.setCell ⟨rb,0,none⟩ (.string ⟨t.toArray⟩) | none=>w
theorem has_of (s : PStr) (c : UInt8) (rb : Nat) (d : Value) (w : World) (h : Blk w rb #[.string ⟨s.toArray⟩, d]) :
    Calls Tryz.prog 63 #[.pointer (some ⟨rb,0,none⟩),.string ⟨#[c]⟩] w (fun e w'=>e=.returned (.bool (rHas c s).isSome)∧w'=hasW (rHas c s) rb w):=by
 have HC:=qq (cutp_of s c);obtain⟨l0,q0,f0⟩:=h;have c0:w.cell? ⟨rb,0,none⟩=some (.string ⟨s.toArray⟩):=q0 0;have z0:w.frozen? ⟨rb,0,none⟩=false:=f0 0;clear q0 f0
 cases hr:rHas c s with
 | none=>
  rw[hr] at HC;clear hr;go_enter Tryz.func63,Tryz.ntmps63;go_wp2_with fail;refine(HC.out _).mono ?_;rintro e w1 ⟨rfl,rfl⟩;go_wp2_with fail
  (try go_ret)
  exact⟨rfl,rfl⟩
 | some t=>
  rw[hr] at HC;clear hr;go_enter Tryz.func63,Tryz.ntmps63;go_wp2_with fail;refine(HC.out _).mono ?_;rintro e w1 ⟨rfl,rfl⟩;go_wp2_with fail
  (try go_ret)
  exact⟨rfl,rfl⟩
theorem signs_of (op:Int) (w:World):Calls Tryz.prog 62 #[.int .i64 op] w (fun e w'=>e=.returned (if op=2 then .tuple #[.string ⟨#[40]⟩,.string ⟨#[38]⟩,.string ⟨#[41]⟩] else .tuple #[.string ⟨#[91]⟩,.string ⟨#[124]⟩,.string ⟨#[93]⟩])∧w=w'):=by
 by_cases h:op=2
 · subst h;rw[if_pos rfl];go_enter Tryz.func62,Tryz.ntmps62;go_wp2_with fail
   first | go_ret3 | go_ret | skip
   first | exact⟨rfl,rfl⟩ | exact⟨_,rfl,rfl,rfl,rfl⟩
 · rw[if_neg h];have h2:(op==2)=false:=by simpa using h
   go_enter Tryz.func62,Tryz.ntmps62;go_wp2_with fail
   first | go_ret3 | go_ret | skip
   first | exact⟨rfl,rfl⟩ | exact⟨_,rfl,rfl,rfl,rfl⟩
theorem rHas_len {c:UInt8} {s t:PStr} (h:rHas c s=some t):t.length+1=s.length:=by
 cases s with
 | nil=>cases h
 | cons x y=>
  simp only[rHas] at h;by_cases hx:x=c
  · rw[if_pos hx] at h;injection h with h
    subst h;rfl
  · rw[if_neg hx] at h
    cases h
def PF.names (N:Nat):PF→Prop
 | .nil=>True
 | .cons _ nm _ kids rest=>nm.length≤N∧kids.names N∧rest.names N
theorem PF.names_snoc {N:Nat}:∀(f:PF) (e:PE),f.names N→e.nm.length≤N→e.kids.names N→(f.snoc e).names N
 | .nil,e,_,h1,h2=>⟨h1,h2,True.intro⟩
 | .cons o n b k r,e,h,h1,h2=>⟨h.1,h.2.1,PF.names_snoc r e h.2.2 h1 h2⟩
theorem PF.sz_snoc:∀(f:PF) (e:PE),(f.snoc e).sz=f.sz+e.kids.sz+1
 | .nil,e=>by show e.kids.sz+0+1=_;simp[PF.sz]
 | .cons o n b k r,e=>by show k.sz+(r.snoc e).sz+1=k.sz+r.sz+1+e.kids.sz+1;rw[PF.sz_snoc r e];omega
def PF.isOne:PF→Prop
 | .cons _ _ _ _ .nil=>True
 | _=>False
def rdOk (N:Nat) (s:PStr):Option (UInt8×UInt8×PF)→PF→PStr→Prop
 | none,f,t=>f.sz+t.length≤s.length+1∧f.names N∧f.isOne∧t.length≤s.length
 | some (_,_,acc),f,t=>f.sz+t.length≤acc.sz+s.length∧(acc.names N→f.names N)∧t.length≤s.length
theorem take_len (p:UInt8→Bool):∀s:PStr,(s.takeWhile p).length≤s.length∧(s.dropWhile p).length≤s.length
 | []=>⟨Nat.le_refl _,Nat.le_refl _⟩
 | x::t=>by
  have:=take_len p t;simp only[List.takeWhile,List.dropWhile];split<;>simp<;>omega
theorem rd_ok (N:Nat):∀(g d:Nat) (s:PStr) (x:Option (UInt8×UInt8×PF)) (f:PF) (t:PStr),s.length≤N→rdGo g d s x=some (f,t)→rdOk N s x f t:=by
 intro g
 induction g with
 | zero=>intro d s x f t _ h;unfold rdGo at h;cases h
 | succ g ih=>
  intro d s x f t hN h;have both:∀(bt en:UInt8) (k:Int) (u:PStr),u.length+1=s.length→((match rHas en u with | some v=>(some (PF.nil,v):Option (PF×PStr)) | none=>rdGo g (d+1) u (some (bt,en,.nil))).map (fun(r:PF×PStr)=>(PF.cons k [] false r.1 .nil,r.2)))=some (f,t)→rdOk N s none f t:=by
   intro bt en k u hu h;obtain⟨r,hr,he⟩:=Option.map_eq_some_iff.1 h;injection he with h1 h2
   subst h1 h2
   cases hv:rHas en u with
   | some v=>
    rw[hv] at hr;injection hr with hr
    subst hr;have:=rHas_len hv;exact⟨by show 0+0+1+v.length≤_;omega,⟨Nat.zero_le _,True.intro,True.intro⟩,True.intro,by show v.length≤_;omega⟩
   | none=>
    rw[hv] at hr;obtain⟨r1,r2⟩:=r;obtain⟨h1,h2,h3⟩:=ih (d+1) u (some (bt,en,.nil)) r1 r2 (by omega) hr;have h1':r1.sz+r2.length≤0+u.length:=h1;exact⟨by show r1.sz+0+1+r2.length≤_;omega,⟨Nat.zero_le _,h2 True.intro,True.intro⟩,True.intro,by show r2.length≤_;omega⟩
  cases x with
  | none=>
   unfold rdGo at h;split at h
   · cases h
   · split at h
     · rename_i u hu
       exact both 38 41 2 u (rHas_len hu) h
     · split at h
       · rename_i u hu
         exact both 124 93 3 u (rHas_len hu) h
       · have hl:=take_len isLet s;have hsum:(s.takeWhile isLet).length+(s.dropWhile isLet).length=s.length:=by
          rw[←List.length_append,List.takeWhile_append_dropWhile]
         split at h
         · rename_i v hv
           injection h with h
           injection h with h1 h2
           subst h1 h2;have:=rHas_len hv;exact⟨by show 0+0+1+v.length≤_;omega,⟨by omega,True.intro,True.intro⟩,True.intro,by omega⟩
         · injection h with h
           injection h with h1 h2
           subst h1 h2;exact⟨by show 0+0+1+(s.dropWhile isLet).length≤_;omega,⟨by omega,True.intro,True.intro⟩,True.intro,by omega⟩
  | some y=>
   obtain⟨bt,en,acc⟩:=y;unfold rdGo at h;obtain⟨r,hr,h⟩:=Option.bind_eq_some_iff.1 h;obtain⟨r1,r2⟩:=r;obtain⟨g1,g2,g3,g4⟩:=ih d s none r1 r2 hN hr;dsimp only at h;split at h
   · cases h
   · rename_i o n b k w
     have hwn:w=.nil:=by
      cases w with
      | nil=>rfl
      | cons=>exact g3.elim
     subst hwn;have hs:(PF.cons o n b k .nil).sz=k.sz+0+1:=rfl;rw[hs] at g1;have hsn:=PF.sz_snoc acc ⟨o,n,b,k⟩;dsimp only at hsn;split at h
     · rename_i u hu
       injection h with h
       injection h with h1 h2
       subst h1 h2;have:=rHas_len hu;exact⟨by rw[hsn];omega,fun ha=>PF.names_snoc acc _ ha g2.1 g2.2.1,by omega⟩
     · obtain⟨u,hu,h⟩:=Option.bind_eq_some_iff.1 h;have:=rHas_len hu;obtain⟨e1,e2,e3⟩:=ih d u _ f t (by omega) h;rw[hsn] at e1;exact⟨by omega,fun ha=>e2 (PF.names_snoc acc _ ha g2.1 g2.2.1),by omega⟩
theorem PF.small_of:∀(f:PF) (N M:Nat),N≤100000→M≤100000→f.names N→f.sz≤M→f.small
 | .nil,_,_,_,_,_,_=>True.intro
 | .cons o n b k r,N,M,hN,hM,hn,hs=>by
  have h1:k.sz+r.sz+1≤M:=hs;have h2:=PF.len_sz k;exact⟨Nat.le_trans hn.1 hN,by omega,PF.small_of k N M hN hM hn.2.1 (by omega),PF.small_of r N M hN hM hn.2.2 (by omega)⟩
end Go.Proofs.YtbepkpjcjpmpmaaGreatDoor
