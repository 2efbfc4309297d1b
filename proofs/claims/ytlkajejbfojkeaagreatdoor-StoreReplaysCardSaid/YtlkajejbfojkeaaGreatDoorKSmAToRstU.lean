/- SmA, SmB, LwA, SpA, SmC, RstC, RstU -/
import Derived.Test.YtlkajejbfojkeaaGreatDoorKLdBToLoD
set_option linter.unusedSimpArgs false
set_option linter.unusedVariables false
set_option maxRecDepth 100000
set_option maxHeartbeats 16000000
namespace Go.Proofs.YtlkajejbfojkeaaGreatDoor
open Go.RowKit
attribute [local go_sem] store_float
theorem infoRReg15:(Tryz.prog.info? 199).map (fun i=>(i.zero,i.size,i.bytes))=some (some (.agg #[.int .i64 0,.int .i64 0,.int .i64 0,.int .i64 0,.int .i64 0,.int .i64 0]),6,48):=by kernel_rfl
theorem part15_of (an aq rg p d s h:Int) (w:World):Calls Tryz.prog 98 #[.agg #[an,aq,rg,p,d,s,h]] w (Makes (.agg #[an,aq,rg,p,d,s,h]) w):=by
 go_enter Tryz.func98,Tryz.ntmps98;go_wp2_with fail;refine bodyPost_ret (v:=.agg #[an,aq,rg,p,d,s,h]) (by simp[results,Tryz.results98,go_sem]) rfl ?_;exact⟨rfl,(bel_alloc (bel_alloc (Below.refl w.heap.size w) _) _)⟩
theorem act15_of (an aq oc dp : Int) (ex : Nat) (pa de : Int) (va : Option Addr) (vc : Nat) (rs : List SReg) (B : Nat) (w : World) (h : w.ownsRow B 55 6 (.slice va rs.length vc) rs.length (regsL rs)) (hl : rs.length ≤ 1000) :
    Calls Tryz.prog 97 #[.agg #[an,aq,oc,dp,.float .f64 ex,pa,de,.slice va rs.length vc]] w fun e w'=>∃c cc,e=.returned (.agg #[an,aq,oc,dp,.float .f64 ex,pa,de,.slice c rs.length cc])∧w'.ownsRow w.heap.size 199 6 (.slice c rs.length cc) rs.length (regsL rs)∧Below w.heap.size w w':=by
 obtain⟨i0,ei,ez,es,eb⟩:=info_parts infoRReg15;have HR:Hid (∀k,k<rs.length→∃r,rs[k]? =some r∧∃b,va=some ⟨b,0,none⟩∧b<w.heap.size∧RegC w b (k*6) r):=qq (fun k hk=>by
   obtain⟨a',cap',hv,_,hr⟩:=reg_row h;obtain⟨g,ha,hg,_,hc⟩:=hr (by omega);simp only[Value.slice.injEq,true_and] at hv;exact⟨rs[k],List.getElem?_eq_getElem hk,g,by rw[hv.1,ha],hg,hc k _ (List.getElem?_eq_getElem hk)⟩)
 clear h;obtain⟨n,hn⟩:∃n,n=rs.length:=⟨_,rfl⟩
 rw[←hn] at HR hl⊢;have HN:=qq hn;clear hn;obtain⟨W1,hW1⟩:∃W1,W1=((w.alloc (.cells #[an,aq,oc,dp,.float .f64 ex,pa,de,.slice va n vc] 51)).alloc (.cells #[.int .i64 0,.int .i64 0,.int .i64 0,.int .i64 0,.float .f64 0,.int .i64 0,.int .i64 0,.slice none 0 0] 116)):=⟨_,rfl⟩
 have HST:Hid (Below (w.heap.size+2) W1 (((w.alloc (.cells #[an,aq,oc,dp,.float .f64 ex,pa,de,.slice va n vc] 51)).alloc (.cells #[.int .i64 0,.int .i64 0,.int .i64 0,.int .i64 0,.float .f64 0,.int .i64 0,.int .i64 0,.slice none 0 0] 116)).alloc (.cells #[an,aq,oc,dp,.float .f64 ex,pa,de,.slice none 0 0] 116))):=qq (by rw[hW1];exact(Below.refl _ _).alloc (by simp) _)
 have HWB:Hid (Below w.heap.size w W1):=qq (by rw[hW1];go_grown)
 have HRB0:Hid (Blk W1 (w.heap.size+1) #[.int .i64 0,.int .i64 0,.int .i64 0,.int .i64 0,.float .f64 0,.int .i64 0,.int .i64 0,.slice none 0 0]):=qq (by rw[hW1];exact Blk.fresh (w.alloc (.cells #[an,aq,oc,dp,.float .f64 ex,pa,de,.slice va n vc] 51)) #[.int .i64 0,.int .i64 0,.int .i64 0,.int .i64 0,.float .f64 0,.int .i64 0,.int .i64 0,.slice none 0 0] 116 (w.heap.size+1) (by simp))
 have HZ:Hid (W1.heap.size=w.heap.size+2):=qq (by rw[hW1];simp);clear hW1;go_enter Tryz.func97,Tryz.ntmps97;go_wp2_with fail;go_loopw [16] (fun i wr=>∃(k:Nat) (v:Value),k≤n∧i=.int .i64 (k:Nat)∧Hid (wr.ownsRow (w.heap.size+3) 199 6 v k (regsL (rs.take k)))∧Hid (Blk wr (w.heap.size+1+1) #[an,aq,oc,dp,.float .f64 ex,pa,de,v])∧Hid (Below (w.heap.size+2) W1 wr)) (fun i _=>n - (intOf i).toNat)
 case atStart=>
  exact⟨0,.slice none 0 0,by omega,by first | rfl | go_num,qq (World.ownsRow_nil _ _ _ _),qq (Blk.fresh _ _ _ _ (by simp)),HST⟩
 case round=>
  obtain⟨k,v,hk,rfl,HO,HB,HW⟩:=hrel;obtain⟨av,cv,rfl⟩:=row_slice HO.out;have q:=HB.out.cell;by_cases hlt:k<n
  · obtain⟨r,hf,b,rfl,hbl,hat⟩:=HR.out k hlt;have BR:Below w.heap.size w wr:=HWB.out.trans (HW.out.mono (by omega));obtain⟨p0,p1,p2,p3,p4,p5⟩:=hat.below BR hbl;have hsz:=HB.out.lt;have HF:=qq hf;obtain⟨rn,rp,⟨sp,sd,ss,sh⟩⟩:=r;have qf:=HB.out.free;dsimp only at p0 p1 p2 p3 p4 p5;clear hat hf hbl BR
    go_wp2_with (at_builtin;refine wpList_append_own_at _ rfl _ _ 114 rfl (w.heap.size+3) 199 i0 (.agg #[.int .i64 0,.int .i64 0,.int .i64 0,.int .i64 0,.int .i64 0,.int .i64 0]) 6 48 Tryz.underlying114 ei ez es eb rfl (by decide) _ _ _ rfl ((HO.out.alloc _).alloc _) ⟨wr.heap.size+1,0,none⟩ 1 1 [.int .i64 rn,.int .i64 rp,.int .i64 sp,.int .i64 sd,.int .i64 ss,.int .i64 sh] (by rfl) rfl (lit_cells (Blk.fresh _ _ _ _ (by simp))) (by simp[Value.oneCell']) ?d3 ?d4 ?d5 ?_)
    case d3=>unfold maxLen;omega
    case d4=>omega
    case d5=>simp;omega
    intro v2 w3 hown hgrow _ hat;have hne:v2.ownBlock≠some (w.heap.size+1+1):=fun e=>by have:=(hown.lt _ e).1;omega
    have hne0:(Value.slice av k cv).ownBlock≠some (w.heap.size+1+1):=fun e=>by have:=(HO.out.lt _ e).1;omega
    have kB:=((HB.out.alloc (.cells #[rn,rp,sp,sd,ss,sh] 55)).alloc (.cells #[rn,rp,sp,sd,ss,sh] 199)).same hgrow.size (hgrow.block _ ((HB.out.alloc _).alloc _).lt (fun e=>hne0 e.symm));have R2:=qq (kB.set' 7 (by simp) v2);have R1:Hid ((w3.setCell ⟨w.heap.size+1+1,7,none⟩ v2).ownsRow (w.heap.size+3) 199 6 v2 (k+1) (regsL (rs.take (k+1)))):=qq (by
      refine row_heap ?_ (fun j hj=>Below.heap_setCell _ _ _ _ (fun e=>hne (by rw[hj,e])));have htk:rs.take (k+1)=rs.take k ++ [⟨rn,rp,⟨sp,sd,ss,sh⟩⟩]:=by
        obtain⟨hj,he⟩:=List.getElem?_eq_some_iff.1 HF.out;rw[List.take_succ_eq_append_getElem hj,he]
      rw[htk];unfold regsL at hown⊢;rw[List.flatMap_append];simpa[regL] using hown)
    have R3:Hid (Below (w.heap.size+2) W1 (w3.setCell ⟨w.heap.size+1+1,7,none⟩ v2)):=qq ((((HW.out.alloc (by omega) _).alloc (by simp;omega) _).grown hgrow (by simp;omega) (fun j hj=>by have:=(HO.out.lt _ hj).1;omega)).setCell (by simp) _);have c0:w3.cell? ⟨w.heap.size+1+1,7,none⟩=some (.slice av k cv):=kB.cell 7;have c1:=kB.free 7;obtain⟨a2,c2,rfl⟩:=row_slice hown
    clear hown hgrow hat kB q qf hne hne0;go_wp2_with fail
    all_goals (go_roundw<;>first | exact⟨k+1,_,by omega,by go_num,R1,R2,R3⟩ | (simp[intOf];omega))
  · obtain rfl:k=n:=by omega
    have HO2:=qq (show wr.ownsRow (w.heap.size+3) 199 6 (.slice av k cv) k (regsL rs) by
      have:=HO.out;rw[List.take_of_length_le (by rw[←HN.out];omega)] at this;exact this)
    have HRB:=qq (HRB0.out.below (by rw[HZ.out];exact HW.out));obtain⟨qr,fr⟩:=HRB.out.out;have lr:=HRB.out.lt;have BR:Below w.heap.size w wr:=HWB.out.trans (HW.out.mono (by omega));go_wp2_with fail
    exact bodyPost_ret (v:=.agg #[an,aq,oc,dp,.float .f64 ex,pa,de,.slice av k cv]) (by simp[results,Tryz.results97,go_sem,qr,fr,lr,Nat.ne_of_lt lr]) rfl ⟨av,cv,rfl,row_base (row_heap HO2.out (fun j hj=>heap8 _ _ _ _ _ _ _ _ _ _ _ (by have:=(HO2.out.lt j hj).1;omega))) (by omega),below8 BR _ (by omega) _ _ _ _ _ _ _ _⟩
theorem regNe (rn rp sp sd ss sh:Int) (w:World):(binOp .neq 199 (.agg #[rn,rp,sp,sd,ss,sh]) (.agg #[rn,rp,sp,sd,ss,sh])).run Tryz.prog w=.ok (.bool false) w:=by
 go_simp
theorem rsameAct_self (an aq oc dp : Int) (ex : Nat) (pa de : Int) (a1 a2 : Option Addr) (c1 c2 : Nat) (rs : List SReg) (B1 B2 : Nat) (T1 T2 : TypeId) (w : World) (h1 : w.ownsRow B1 T1 6 (.slice a1 rs.length c1) rs.length (regsL rs)) (h2 : w.ownsRow B2 T2 6 (.slice a2 rs.length c2) rs.length (regsL rs)) (hx : F64 ex) (hl : rs.length ≤ 1000) :
    Calls Tryz.prog 96 #[.agg #[an,aq,oc,dp,.float .f64 ex,pa,de,.slice a1 rs.length c1],.agg #[an,aq,oc,dp,.float .f64 ex,pa,de,.slice a2 rs.length c2]] w (Makes (.bool true) w):=by
 have G:∀(B:Nat) (T:TypeId) (v:Option Addr) (vc:Nat),w.ownsRow B T 6 (.slice v rs.length vc) rs.length (regsL rs)→Hid (∀k,k<rs.length→∃r,rs[k]? =some r∧∃b,v=some ⟨b,0,none⟩∧b<w.heap.size∧RegC w b (k*6) r):=fun B T v vc h=>qq (fun k hk=>by
   obtain⟨a',cap',hv,_,hr⟩:=reg_row h;obtain⟨g,ha,hg,_,hc⟩:=hr (by omega);simp only[Value.slice.injEq,true_and] at hv;exact⟨rs[k],List.getElem?_eq_getElem hk,g,by rw[hv.1,ha],hg,hc k _ (List.getElem?_eq_getElem hk)⟩)
 have H1:=G _ _ _ _ h1;have H2:=G _ _ _ _ h2;have HS:=qq (fun W=>rsame09_self an aq oc dp ex W hx);clear G h1 h2 hx;obtain⟨n,hn⟩:∃n,n=rs.length:=⟨_,rfl⟩
 rw[←hn] at H1 H2 hl⊢;clear hn;have B0:Below w.heap.size w ((w.alloc (.cells #[an,aq,oc,dp,.float .f64 ex,pa,de,.slice a1 n c1] 116)).alloc (.cells #[an,aq,oc,dp,.float .f64 ex,pa,de,.slice a2 n c2] 116)):=by go_grown
 have HA:=qq ((Blk.fresh w #[an,aq,oc,dp,.float .f64 ex,pa,de,.slice a1 n c1] 116 _ rfl).alloc (.cells #[an,aq,oc,dp,.float .f64 ex,pa,de,.slice a2 n c2] 116));have HB:=qq (Blk.fresh (w.alloc (.cells #[an,aq,oc,dp,.float .f64 ex,pa,de,.slice a1 n c1] 116)) #[.int .i64 an,.int .i64 aq,.int .i64 oc,.int .i64 dp,.float .f64 ex,.int .i64 pa,.int .i64 de,.slice a2 n c2] 116 (w.heap.size+1) (by simp))
 have HB0:=qq B0;clear B0;go_enter Tryz.func96,Tryz.ntmps96;go_wp2_with fail;refine(HS.out _).mono ?_;rintro e w5 ⟨rfl,hb5⟩;have HA:=qq (HA.out.below hb5);have HB:=qq (HB.out.below hb5);have HB0:=qq (below_then HB0.out hb5);clear hb5;obtain⟨qa,fa⟩:=HA.out.out;obtain⟨qb,fb⟩:=HB.out.out;go_wp2_with fail;clear qa fa qb fb
 go_loopw [38] (fun i wr=>∃k:Nat,k≤n∧i=.int .i64 (k:Nat)∧Below w5.heap.size w5 wr) (fun i _=>n - (intOf i).toNat)
 case atStart=>exact⟨0,by omega,by first | rfl | go_num,Below.refl _ _⟩
 case round=>
  obtain⟨k,hk,rfl,hB⟩:=hrel;have qa:=(HA.out.below hB).cell;have qb:=(HB.out.below hB).cell;have B1:Below w.heap.size w wr:=below_then HB0.out hB;by_cases hlt:k<n
  · obtain⟨f,hf,b1,rfl,hl1',hc1⟩:=H1.out k hlt;obtain⟨f',hf',b2,rfl,hl2',hc2⟩:=H2.out k hlt;obtain rfl:f=f':=by rw[hf] at hf';injection hf'
    have c1:=hc1.below B1 hl1';have c2:=hc2.below B1 hl2';have hki:(k:Int)<(n:Int):=by omega
    have hk0:(0:Int)≤(k:Int):=by omega
    clear hf hf' hc1 hc2;obtain⟨rn,rp,⟨sp,sd,ss,sh⟩⟩:=f;obtain⟨p0,p1,p2,p3,p4,p5⟩:=c1;obtain⟨r0,r1,r2,r3,r4,r5⟩:=c2;dsimp only at p0 p1 p2 p3 p4 p5 r0 r1 r2 r3 r4 r5;have hne:=regNe rn rp sp sd ss sh;have q1:=qa 7;have q2:=qb 7;clear qa qb;go_wp2_with fail;go_quiet (fail)
    all_goals go_wp2_with fail
    all_goals (go_roundw<;>first | exact⟨k+1,by omega,by go_num,below_then hB ⟨rfl,rfl,rfl,Nat.le_refl _,fun _ _=>rfl⟩⟩ | (simp[intOf];omega))
  · obtain rfl:k=n:=by omega
    go_wp2_with fail;go_ret;exact⟨rfl,B1⟩
theorem Child_is (L:SLoc) (S:Sto) (pt:Int) (w:World) (h:StoreAt L S w) (hG:StoGood S) (hp:0≤pt∧pt<(S.parts.length:Int)) (i:Nat) (a:SAct) (hc:schild S (pt+1)=some i) (ha:S.acts[i]? =some a):Calls Tryz.prog 27 #[.pointer (some ⟨L.sb,0,none⟩),.int .i64 pt] w (ActOut a w):=by
 have H:=qq h;have HH:=qq (fun W hW=>has_of L S pt W hW);rw[decide_eq_true hp] at HH;have HC:=qq (fun W hW=>child_of L S (pt+1) W hW hG);rw[if_neg (by omega)] at HC;rw[hc] at HC;have hm:=List.mem_of_getElem? ha;have hil:=(List.getElem?_eq_some_iff.1 ha).1;obtain⟨x,hx⟩:∃x,L.ab[i]? =some x:=⟨_,List.getElem?_eq_getElem (by rw[h.len];exact hil)⟩
 have hap:aptr L (some i)=.pointer (some ⟨x.1,0,none⟩):=by simp[aptr,hx]
 rw[hap] at HC;have HGY:=qq (fun W (hW:StoreAt L S W)=>got_yes x.1 a x.2 W (hW.act i x a hx ha).1 (hW.act i x a hx ha).2 (hG.act a hm).len);obtain⟨xb,xv⟩:=x;obtain⟨an,aq,oc,dp,ex,pa,de,rs⟩:=a;unfold ActOut at HGY⊢;dsimp only[actC] at*;obtain⟨vn,hvn⟩:∃n,n=rs.length:=⟨_,rfl⟩
 rw[←hvn] at HGY⊢;have h8:=hG.parts;clear h hG hc ha hm hil hx hap hvn;go_enter Tryz.func27,Tryz.ntmps27;go_wp2_with fail;refine(HH.out _ (H.out.below (bel_alloc (Below.refl w.heap.size w) _))).mono ?_;rintro e w1 ⟨rfl,rfl⟩;go_wp2_with fail;refine(HC.out _ (H.out.below (bel_alloc (Below.refl w.heap.size w) _))).mono ?_;rintro e w2 ⟨rfl,hb2⟩
 have K1:=qq ((Blk.fresh _ _ _ (w.heap.size) (by simp)).below hb2);have HB:=qq (below_then (bel_alloc (Below.refl w.heap.size w) _) hb2);have z2:=HB.out.size;clear hb2;obtain⟨lK1,qK1,fK1⟩:=K1.out;go_wp2_with fail;clear qK1 fK1 lK1;refine(HGY.out _ (H.out.below HB.out)).mono ?_;rintro e w3 ⟨v',rfl,ho,hb3⟩;obtain⟨va,vc,rfl,_,_⟩:=reg_row ho;have HZ0:=qq (HB.out).size;have ooK1:=K1.out.lt
 have K1:=qq (K1.out.below hb3);have HB:=qq (below_then HB.out hb3);have z3:=HB.out.size;clear hb3;have HO:=qq (ho);obtain⟨lK1,qK1,fK1⟩:=K1.out;go_wp2_with fail;have hV0:=(sst (sst (sst (sst (sst (sst (sst (sst K1.out 0 (.int .i64 an)) 1 (.int .i64 aq)) 2 (.int .i64 oc)) 3 (.int .i64 dp)) 4 (.float .f64 ex)) 5 (.int .i64 pa)) 6 (.int .i64 de)) 7 (.slice va vn vc))
 have hVq0:=hV0.cell;have hVf0:=hV0.free;refine bodyPost_ret (v:=.tuple #[.agg #[an,aq,oc,dp,.float .f64 ex,pa,de,.slice va vn vc],.bool true]) (by simp[results,Tryz.results27,go_sem,hVq0,hVf0]) rfl ?_;clear qK1 fK1 lK1
 exact⟨.slice va vn vc,rfl,row_base (row_st (row_st (row_st (row_st (row_st (row_st (row_st (row_st HO.out (p:=⟨w.heap.size,0,none⟩) (by(try dsimp only);omega) _) (p:=⟨w.heap.size,1,none⟩) (by(try dsimp only);omega) _) (p:=⟨w.heap.size,2,none⟩) (by(try dsimp only);omega) _) (p:=⟨w.heap.size,3,none⟩) (by(try dsimp only);omega) _) (p:=⟨w.heap.size,4,none⟩) (by(try dsimp only);omega) _) (p:=⟨w.heap.size,5,none⟩) (by(try dsimp only);omega) _) (p:=⟨w.heap.size,6,none⟩) (by(try dsimp only);omega) _) (p:=⟨w.heap.size,7,none⟩) (by(try dsimp only);omega) _) HZ0.out,(bst (bst (bst (bst (bst (bst (bst (bst HB.out w.heap.size 0 _) w.heap.size 1 _) w.heap.size 2 _) w.heap.size 3 _) w.heap.size 4 _) w.heap.size 5 _) w.heap.size 6 _) w.heap.size 7 _)⟩
theorem lGet_at {S:Sto} (hS:StoGood S) {i:Nat} {a:SAct} (ha:S.acts[i]? =some a):lGet S a.an a.aq=some (i,a):=by
 obtain⟨hi,he⟩:=List.getElem?_eq_some_iff.1 ha;have hf:sfind S a.an a.aq=some i:=by
  unfold sfind;rw[List.findIdx?_eq_some_iff_getElem];refine⟨hi,by rw[he];simp,fun j hj=> ?_⟩;have:=(List.pairwise_iff_getElem.1 hS.sorted) j i (by omega) hi hj;rw[he] at this;simp only[decide_eq_true_eq,not_and,Bool.not_eq_true,decide_eq_false_iff_not];intro _ h2;omega
 unfold lGet;rw[hf];simp only[ha]
theorem partNe (a b c d e f g:Int) (w:World):(binOp .neq 166 (.agg #[a,b,c,d,e,f,g]) (.agg #[a,b,c,d,e,f,g])).run Tryz.prog w=.ok (.bool false) w:=by
 go_simp
theorem num_of (n:Int) (h:0≤n∧n≤14) (ea:Int→Addr) (w:World) (hE:EnvS ea w):Calls Tryz.prog 20 #[errOf ea n] w (Makes (.int .i64 n) w):=by
 unfold errOf;split
 · rename_i h0;subst h0;exact num_nil w
 · exact num_some n (by omega) ea w hE.e
def exFs:List SFact:=[⟨1,1,0,0,0,0,0,1,0,0,0,0,0,4621256167635550208⟩,⟨2,1,0,0,0,0,1,0,0,0,0,0,0,0⟩,⟨3,1,0,0,0,0,0,0,0,0,5,0,0,0⟩]
def exAct:SAct:=⟨1,0,1,0,4621256167635550208,0,0,[⟨0,0,⟨1,1,5,0⟩⟩]⟩
theorem exFit:sfit ⟨1,0,[],[]⟩ exFs=(⟨1,1,[exAct],[]⟩,true):=by kernel_rfl
theorem exF64:∀f∈exFs,F64 f.ex:=by
 intro f hf;simp only[exFs,List.mem_cons,List.not_mem_nil,or_false] at hf;rcases hf with rfl | rfl | rfl<;>(unfold F64;decide)
theorem alive15_of (ea:Int→Addr) (w:World) (hE:EnvS ea w):Calls Tryz.prog 18 #[] w (Makes (.bool true) w):=by
 have HN:=qq (snew_yes 1 w (by omega));have HE:=qq hE;clear hE;go_enter Tryz.func18,Tryz.ntmps18;go_wp2_with fail;refine HN.out.mono ?_;rintro e w1 ⟨rfl,rfl⟩;obtain⟨w1,hw1⟩:∃W,W=w.alloc (.cells #[.int .i64 1,.int .i64 0,.slice none 0 0,.slice none 0 0] 154):=⟨_,rfl⟩
 have HB1:Hid (Below w.heap.size w w1):=qq (by rw[hw1];go_grown);have HZ1:Hid (w1.heap.size=w.heap.size+1):=qq (by rw[hw1];simp);have HS0:Hid (StoreAt ⟨w.heap.size,.slice none 0 0,.slice none 0 0,[]⟩ ⟨1,0,[],[]⟩ w1):=qq (by
   have hb:Blk w1 w.heap.size #[.int .i64 1,.int .i64 0,.slice none 0 0,.slice none 0 0]:=by rw[hw1];exact Blk.fresh w _ _ _ rfl
   exact⟨hb,World.ownsRow_nil _ _ _ _,World.ownsRow_nil _ _ _ _,fun i y a h=>by simp at h,by simp[SLoc.foot,Value.ownBlock,blocks]⟩)
 rw[←hw1];clear hw1
 obtain⟨W2,hW2⟩:∃W,W=(w1.alloc (.cells #[.int .i64 1,.int .i64 0] 36)).alloc (.cells #[.int .i64 1,.int .i64 1,.int .i64 0,.int .i64 0,.int .i64 0,.int .i64 0,.int .i64 0,.int .i64 1,.int .i64 0,.int .i64 0,.int .i64 0,.int .i64 0,.int .i64 0,.float .f64 4621256167635550208,.int .i64 2,.int .i64 1,.int .i64 0,.int .i64 0,.int .i64 0,.int .i64 0,.int .i64 1,.int .i64 0,.int .i64 0,.int .i64 0,.int .i64 0,.int .i64 0,.int .i64 0,.float .f64 0,.int .i64 3,.int .i64 1,.int .i64 0,.int .i64 0,.int .i64 0,.int .i64 0,.int .i64 0,.int .i64 0,.int .i64 0,.int .i64 0,.int .i64 5,.int .i64 0,.int .i64 0,.float .f64 0] 39):=⟨_,rfl⟩
 have HB2:Hid (Below w1.heap.size w1 W2):=qq (by rw[hW2];go_grown);have HK3:Hid (Blk W2 w1.heap.size #[.int .i64 1,.int .i64 0]):=qq (by rw[hW2];exact(Blk.fresh w1 #[.int .i64 1,.int .i64 0] 36 _ rfl).alloc _)
 have HKF:Hid (Blk W2 (w1.heap.size+1) #[.int .i64 1,.int .i64 1,.int .i64 0,.int .i64 0,.int .i64 0,.int .i64 0,.int .i64 0,.int .i64 1,.int .i64 0,.int .i64 0,.int .i64 0,.int .i64 0,.int .i64 0,.float .f64 4621256167635550208,.int .i64 2,.int .i64 1,.int .i64 0,.int .i64 0,.int .i64 0,.int .i64 0,.int .i64 1,.int .i64 0,.int .i64 0,.int .i64 0,.int .i64 0,.int .i64 0,.int .i64 0,.float .f64 0,.int .i64 3,.int .i64 1,.int .i64 0,.int .i64 0,.int .i64 0,.int .i64 0,.int .i64 0,.int .i64 0,.int .i64 0,.int .i64 0,.int .i64 5,.int .i64 0,.int .i64 0,.float .f64 0]):=qq (by rw[hW2];exact Blk.fresh _ _ _ _ (by simp))
 go_wp2_with fail;rw[←hW2];clear hW2;go_loopw [27] (fun i wr=>∃k:Nat,k≤3∧i=.int .i64 (k:Nat)∧Hid (∃U,sfit ⟨1,0,[],[]⟩ exFs=sfit U (exFs.drop k)∧StoGood U∧SGoes ⟨w.heap.size,.slice none 0 0,.slice none 0 0,[]⟩ U W2 wr)) (fun i _=>3 - (intOf i).toNat)
 case atStart=>exact⟨0,by omega,by first | rfl | go_num,qq ⟨_,rfl,splay_good (node:=1) (by omega) [],SGoes.same (HS0.out.below HB2.out) (Below.refl _ _)⟩⟩
 case round=>
  obtain⟨k,hk,rfl,HU⟩:=hrel;obtain⟨U,hU,hGU,hgo⟩:=HU.out;obtain⟨L1,hL1,hS1,hg1⟩:=hgo;dsimp only at hL1;have hz1:=HZ1.out;have hft:∀j∈(⟨w.heap.size,.slice none 0 0,.slice none 0 0,[]⟩:SLoc).foot,j=w.heap.size:=fun j hj=>by simpa[SLoc.foot,Value.ownBlock,blocks] using hj
  have hz2:=HB2.out.size;have hnl1:∀j∈L1.foot,w.heap.size≤j:=fun j hj=>by
   rcases hg1.new j hj with e | e
   · rw[hft j e];exact Nat.le_refl _
   · omega
  have hbe:Below w.heap.size w wr:=(HB1.out.trans (HB2.out.mono (by omega))).trans (hg1.below (fun j hj=>by rw[hft j hj];exact Nat.le_refl _) (by omega));have l3:=HK3.out.lt;have lF:=HKF.out.lt;have K3:=qq (HK3.out.same hg1.size (hg1.block _ l3 (fun h=>by have:=hft _ h;omega)));have KF:=qq (HKF.out.same hg1.size (hg1.block _ lF (fun h=>by have:=hft _ h;omega)));by_cases hlt:k<3
  · have hks:k<exFs.length:=by unfold exFs;exact hlt
    obtain⟨f,hf⟩:∃f,f=exFs[k]:=⟨_,rfl⟩
    have hst:sfit U (exFs.drop k)=if(sapply U f).2=0 then sfit (sapply U f).1 (exFs.drop (k+1)) else((sapply U f).1,false):=by
     rw[List.drop_eq_getElem_cons hks,←hf];rfl
    have hx:F64 f.ex:=by rw[hf];exact exF64 _ (List.getElem_mem hks)
    have h0:(sapply U f).2=0:=by
     rw[exFit,hst] at hU;by_cases h:(sapply U f).2=0
     · exact h
     · rw[if_neg h] at hU;injection hU with _ h2;cases h2
    rw[hst,if_pos h0] at hU;have hgood:StoGood (sapply U f).1:=sapply_good hGU;have HA:=qq (fun W (hW:EnvG L1 ea W) (hs:StoreAt L1 U W)=>apply_of L1 U f ea W hx hW hs hGU);obtain⟨T,hT⟩:∃T,T=(sapply U f).1:=⟨_,rfl⟩
    rw[←hT,h0] at HA;rw[←hT] at hU hgood
    have hcell:∀j v,(#[.int .i64 1,.int .i64 1,.int .i64 0,.int .i64 0,.int .i64 0,.int .i64 0,.int .i64 0,.int .i64 1,.int .i64 0,.int .i64 0,.int .i64 0,.int .i64 0,.int .i64 0,.float .f64 4621256167635550208,.int .i64 2,.int .i64 1,.int .i64 0,.int .i64 0,.int .i64 0,.int .i64 0,.int .i64 1,.int .i64 0,.int .i64 0,.int .i64 0,.int .i64 0,.int .i64 0,.int .i64 0,.float .f64 0,.int .i64 3,.int .i64 1,.int .i64 0,.int .i64 0,.int .i64 0,.int .i64 0,.int .i64 0,.int .i64 0,.int .i64 0,.int .i64 0,.int .i64 5,.int .i64 0,.int .i64 0,.float .f64 0]:Array Value)[k*14+j]? =some v→wr.cell? ⟨w1.heap.size+1,k*14+j,none⟩=some v:=fun j v h=>(KF.out.cell _).trans h
    have hat:FactAt wr (w1.heap.size+1) (k*14) f:=by
     have hf':exFs[k]? =some f:=by rw[hf];exact List.getElem?_eq_getElem hks
     clear hf;have hk3:k=0∨k=1∨k=2:=by omega
     clear hst hU hks;rcases hk3 with rfl | rfl | rfl<;>(injection hf' with e;subst e;exact⟨hcell 0 _ rfl,hcell 1 _ rfl,hcell 2 _ rfl,hcell 3 _ rfl,hcell 4 _ rfl,hcell 5 _ rfl,hcell 6 _ rfl,hcell 7 _ rfl,hcell 8 _ rfl,hcell 9 _ rfl,hcell 10 _ rfl,hcell 11 _ rfl,hcell 12 _ rfl,hcell 13 _ rfl⟩)
    have lFr:=KF.out.lt;have hki:(k:Int)<3:=by omega
    have hk0:(0:Int)≤(k:Int):=by omega
    have HU1:=qq hU;have HGD:=qq hgood;have HBE:=qq hbe;have HNL1:=qq hnl1;have HS1:=qq hS1;have HG1:=qq hg1;have HL1:=qq hL1;obtain⟨c0,c1,c2,c3,c4,c5,c6,c7,c8,c9,c10,c11,c12,c13⟩:=hat;clear hf hst hx h0 hU hgood hbe hnl1 hS1 hg1 hT hGU HU hcell hft hz1 hz2 l3 lF hks;obtain⟨k',an,aq,rg,nd,pt,pr,oc,dp,pa,st,hw,de,ex⟩:=f;dsimp only[factV,factC,ApplyEnds] at*;simp only[HL1.out] at HA;go_wp2_with fail
    refine(HA.out _ (envG_of HE.out (below_then HBE.out (by go_grown)) HNL1.out) (HS1.out.below (by go_grown))).mono ?_;rintro e w5 ⟨rfl,hs⟩;have HSG:=qq (show SGoes ⟨w.heap.size,.slice none 0 0,.slice none 0 0,[]⟩ T W2 w5 by
      obtain⟨L2,hL2,hS2,hg2⟩:=hs;exact⟨L2,by rw[hL2,HL1.out],hS2,(HG1.out.then_below (w2:=wr.alloc (.cells #[k',an,aq,rg,nd,pt,pr,oc,dp,pa,st,hw,de,.float .f64 ex] 39)) (by go_grown)).trans hg2⟩)
    clear hs;have he0:errOf ea 0=.nilIface:=rfl;simp only[he0];go_wp2_with fail;go_roundw
    case rel=>exact⟨k+1,by omega,by go_num,qq ⟨T,HU1.out,HGD.out,HSG.out⟩⟩
    case measure=>(simp[intOf];omega)
  · obtain rfl:k=3:=by omega
    rw[exFit] at hU;have hU2:U=⟨1,1,[exAct],[]⟩:=by
     have h:sfit U (exFs.drop 3)=(U,true):=rfl;rw[h] at hU;injection hU with h1 _
     exact h1.symm
    subst hU2;have HFD:=qq (fun W hW=>Find_yes L1 ⟨1,1,[exAct],[]⟩ 1 0 0 exAct W hW hGU (lGet_at (i:=0) hGU rfl));have HS1:=qq hS1;have HBE:=qq hbe;unfold ActOut exAct at HFD;dsimp only[actC,List.length] at HFD;simp only[hL1] at HFD;clear hU hS1 hbe hg1 hnl1 hGU HU hft hz1 hz2;have q3:=K3.out.cell;have f3:=K3.out.free;have l3':=K3.out.lt;have q30:=q3 0;have q31:=q3 1;go_wp2_with fail
    refine(HFD.out _ (HS1.out.below (by go_grown))).mono ?_;rintro e w5 ⟨v',rfl,ho,hb5⟩;have B5:=below_then HBE.out hb5;obtain⟨va,vc,rfl,_,hr⟩:=reg_row ho;obtain⟨g,rfl,hg,_,hc⟩:=hr (by decide);obtain⟨r0,r1,r2,r3,r4,r5⟩:=hc 0 _ rfl;dsimp only at r0 r1 r2 r3 r4 r5;clear ho hr hc q3 f3;go_wp2_with fail;go_ret;exact⟨rfl,below_then B5 (by go_grown)⟩
theorem same15_of (L:SLoc) (R:RLoc) (S:Sto) (w:World) (h:StoreAt L S w) (hr:RStoreAt R S w) (hG:StoGood S):Calls Tryz.prog 23 #[.pointer (some ⟨L.sb,0,none⟩),.pointer (some ⟨R.sb,0,none⟩)] w (Makes (.bool true) w):=by
 have H:=qq h;have HR:=qq hr;have HG:=qq hG;have HAT:=qq (fun W hW=>acts_of L S W hW hG);have HPT:=qq (fun W hW=>parts_of L S W hW hG.parts);have HND:=qq (fun W hW=>node_of L S W hW);have HNX:=qq (fun W hW=>next_of L S W hW);obtain⟨n,hn⟩:∃n,n=S.acts.length:=⟨_,rfl⟩
 obtain⟨m,hm⟩:∃m,m=S.parts.length:=⟨_,rfl⟩
 obtain⟨nd,hnd⟩:∃x,x=S.node:=⟨_,rfl⟩
 obtain⟨nx,hnx⟩:∃x,x=S.next:=⟨_,rfl⟩
 have h8:n≤8:=by rw[hn];exact hG.acts
 have m8:m≤8:=by rw[hm];exact hG.parts
 obtain⟨ra,rc,hra,_,_⟩:=act_row hr.len hr.acts;obtain⟨rp,rpc,hrp⟩:=row_slice hr.parts;have hQ:=fun W (hW:Below w.heap.size w W)=>(show R.sb<W.heap.size∧W.cell? ⟨R.sb,0,none⟩=some (.int .i64 nd)∧W.cell? ⟨R.sb,1,none⟩=some (.int .i64 nx)∧W.cell? ⟨R.sb,2,none⟩=some (.slice ra n rc)∧W.cell? ⟨R.sb,3,none⟩=some (.slice rp m rpc) from by
   have h1:=(hr.below hW).blk;rw[hra,hrp,←hn,←hm,←hnd,←hnx] at h1;exact⟨h1.lt,h1.cell 0,h1.cell 1,h1.cell 2,h1.cell 3⟩)
 have HQ:=qq hQ;rw[←hnd] at HND;rw[←hnx] at HNX;rw[←hm] at HPT;have HRA:=qq (show R.av=.slice ra n rc by rw[hra,hn]);have HN:=qq hn;have HM:=qq hm;clear h hr hG hn hm hnd hnx hra hrp hQ;go_enter Tryz.func23,Tryz.ntmps23;obtain⟨xl,q0,q1,q2,q3⟩:=HQ.out _ (Below.refl _ _);go_wp2_with fail;clear xl q0 q1 q2 q3;refine(HAT.out _ (H.out.below (Below.refl w.heap.size w))).mono ?_
 rintro e w1 ⟨v1,vs,rfl,ha,hb1⟩;obtain⟨xa,xc,rfl,_,_⟩:=act_row ha.len ha.row;rw[←HN.out] at ha⊢;have HB:=qq (below_then (Below.refl w.heap.size w) hb1);have z1:=HB.out.size;clear hb1;have HA:=qq (ha)
 (try clear ha)
 obtain⟨xl,q0,q1,q2,q3⟩:=HQ.out _ HB.out;go_wp2_with fail;clear xl q0 q1 q2 q3;refine(HPT.out _ (H.out.below HB.out)).mono ?_;rintro e w2 ⟨v2,rfl,hp,hb2⟩;obtain⟨pa0,pc0,rfl⟩:=row_slice hp;have HA:=qq (HA.out.below hb2);have HB:=qq (below_then HB.out hb2);have z2:=HB.out.size;clear hb2;have HP:=qq (hp)
 (try clear hp)
 obtain⟨xl,q0,q1,q2,q3⟩:=HQ.out _ HB.out;go_wp2_with fail;clear xl q0 q1 q2 q3;refine reg_start (fun w'=>ActsIn _ _ _ _ w'∧World.ownsRow w' _ _ _ _ _ _∧Below w.heap.size w w') (by kernel_rfl) ⟨(HA.out.below (by go_grown)),(row_dr HP.out),(bel_drew HB.out)⟩ ?_;rintro w3 hHeld;obtain⟨HA',HP',HB'⟩:=id hHeld;have HA:=qq HA';have HP:=qq HP';have HB:=qq HB';clear HA' HP' HB';have z3:=HB.out.size
 refine takeM (d:=some 26) 0 rfl rfl hHeld (fun w' _=>by go_simp;(try rfl)) ?_;simp only[puts];refine takeM (d:=some 28) 2 rfl rfl hHeld (fun w' _=>by go_simp;(try rfl)) ?_;simp only[puts];refine takeM (d:=some 29) 3 rfl rfl hHeld (fun w' _=>by go_simp;(try rfl)) ?_;simp only[puts];refine takeM (d:=some 30) 4 rfl rfl hHeld (fun w' _=>by go_simp;(try rfl)) ?_;simp only[puts]
 refine takeM (d:=some 31) 5 rfl rfl hHeld (fun w' hS'=>by obtain⟨xl,q0,q1,q2,q3⟩:=HQ.out _ hS'.2.2;clear hS';go_simp;(try rfl)) ?_;simp only[puts];refine one_M 1 (by kernel_rfl) ?_;refine wpOp_call (d:=some 27) 1 94 _ _ [.pointer (some ⟨L.sb,0,none⟩)] rfl rfl rfl (enters_of Tryz.func94 (by kernel_rfl) rfl) (by rfl) (by rfl) ?_;refine(HND.out _ (H.out.below HB.out)).mono ?_;rintro e w4 ⟨rfl,rfl⟩
 refine ret_S hHeld (fun hHeld=> ?_);simp only[puts];refine takeM (d:=some 32) 6 rfl rfl hHeld (fun w' _=>by go_simp;(try rfl)) ?_;simp only[puts];refine takeM (d:=some 33) 7 rfl rfl hHeld (fun w' _=>by go_simp;(try rfl)) ?_;simp only[puts];refine takeM (d:=some 34) 8 rfl rfl hHeld (fun w' _=>by go_simp;(try rfl)) ?_;simp only[puts]
 refine takeM (d:=some 36) 10 rfl rfl hHeld (fun w' _=>by go_simp;(try rfl)) ?_;simp only[puts];refine takeM (d:=some 37) 11 rfl rfl hHeld (fun w' _=>by go_simp;(try rfl)) ?_;simp only[puts];refine takeM (d:=some 38) 12 rfl rfl hHeld (fun w' _=>by go_simp;(try rfl)) ?_;simp only[puts]
 refine takeM (d:=some 39) 13 rfl rfl hHeld (fun w' hS'=>by obtain⟨xl,q0,q1,q2,q3⟩:=HQ.out _ hS'.2.2;clear hS';go_simp;(try rfl)) ?_;simp only[puts];refine one_M 9 (by kernel_rfl) ?_;refine wpOp_call (d:=some 35) 9 95 _ _ [.pointer (some ⟨L.sb,0,none⟩)] rfl rfl rfl (enters_of Tryz.func95 (by kernel_rfl) rfl) (by rfl) (by rfl) ?_;refine(HNX.out _ (H.out.below HB.out)).mono ?_;rintro e w5 ⟨rfl,rfl⟩
 refine ret_S hHeld (fun hHeld=> ?_);simp only[puts];refine takeM (d:=some 40) 14 rfl rfl hHeld (fun w' _=>by go_simp;(try rfl)) ?_;simp only[puts];refine takeM (d:=some 41) 15 rfl rfl hHeld (fun w' _=>by go_simp;(try rfl)) ?_;simp only[puts];refine takeM (d:=some 42) 16 rfl rfl hHeld (fun w' _=>by go_simp;(try rfl)) ?_;simp only[puts]
 refine takeM (d:=some 43) 17 rfl rfl hHeld (fun w' _=>by go_simp;(try rfl)) ?_;simp only[puts];refine takeM (d:=some 44) 18 rfl rfl hHeld (fun w' _=>by go_simp;(try rfl)) ?_;simp only[puts];refine takeM (d:=some 45) 19 rfl rfl hHeld (fun w' _=>by go_simp;(try rfl)) ?_;simp only[puts];refine takeM (d:=some 46) 20 rfl rfl hHeld (fun w' _=>by go_simp;(try rfl)) ?_;simp only[puts]
 refine takeM (d:=some 47) 21 rfl rfl hHeld (fun w' _=>by go_simp;(try rfl)) ?_;simp only[puts];refine takeM (d:=some 48) 22 rfl rfl hHeld (fun w' hS'=>by obtain⟨xl,q0,q1,q2,q3⟩:=HQ.out _ hS'.2.2;clear hS';go_simp;(try rfl)) ?_;simp only[puts];refine takeM (d:=some 49) 23 rfl rfl hHeld (fun w' _=>by go_simp;(try rfl)) ?_;simp only[puts]
 refine takeM (d:=some 50) 24 rfl rfl hHeld (fun w' _=>by go_simp;(try rfl)) ?_;simp only[puts];refine takeM (d:=some 51) 25 rfl rfl hHeld (fun w' _=>by go_simp;(try rfl)) ?_;simp only[puts];refine takeM (d:=some 52) 26 rfl rfl hHeld (fun w' _=>by go_simp;(try rfl)) ?_;simp only[puts];refine takeM (d:=some 53) 27 rfl rfl hHeld (fun w' _=>by go_simp;(try rfl)) ?_;simp only[puts]
 refine takeM (d:=some 54) 28 rfl rfl hHeld (fun w' _=>by go_simp;(try rfl)) ?_;simp only[puts];refine takeM (d:=some 55) 29 rfl rfl hHeld (fun w' _=>by go_simp;(try rfl)) ?_;simp only[puts];refine takeM (d:=some 56) 30 rfl rfl hHeld (fun w' _=>by go_simp;(try rfl)) ?_;simp only[puts];refine takeM (d:=some 57) 31 rfl rfl hHeld (fun w' _=>by go_simp;(try rfl)) ?_;simp only[puts]
 refine takeM (d:=some 58) 32 rfl rfl hHeld (fun w' hS'=>by obtain⟨xl,q0,q1,q2,q3⟩:=HQ.out _ hS'.2.2;clear hS';go_simp;(try rfl)) ?_;simp only[puts];refine takeM (d:=some 59) 33 rfl rfl hHeld (fun w' _=>by go_simp;(try rfl)) ?_;simp only[puts];refine takeM (d:=some 60) 34 rfl rfl hHeld (fun w' _=>by go_simp;(try rfl)) ?_;simp only[puts]
 refine takeM (d:=some 61) 35 rfl rfl hHeld (fun w' _=>by go_simp;(try rfl)) ?_;simp only[puts];refine doneM (by kernel_rfl) ?_ _;clear hHeld;obtain⟨xl,q0,q1,q2,q3⟩:=HQ.out _ HB.out;go_wp2_with fail;clear xl q0 q1 q2 q3;go_loopw [64] (fun i wr=>∃k:Nat,k≤n∧i=.int .i64 (k:Nat)∧Below w3.heap.size w3 wr) (fun i _=>n - (intOf i).toNat)
 case atStart=>exact⟨0,by omega,by first | rfl | go_num,Below.refl _ _⟩
 case round=>
  obtain⟨k,hk,rfl,hB⟩:=hrel;have BW:Below w.heap.size w wr:=below_then HB.out hB;have H:=qq (H.out.below BW);have HR:=qq (HR.out.below BW);have HA:=qq (HA.out.below hB);by_cases hlt:k<n
  · have hki:(k:Int)<(n:Int):=by omega
    have hk0:(0:Int)≤(k:Int):=by omega
    obtain⟨a,ha⟩:∃a,S.acts[k]? =some a:=⟨_,List.getElem?_eq_getElem (by rw[←HN.out];exact hlt)⟩
    obtain⟨x,hx⟩:∃x,vs[k]? =some x:=⟨_,List.getElem?_eq_getElem (by rw[HA.out.len,←HN.out];exact hlt)⟩
    obtain⟨u,hu⟩:∃u,R.rv[k]? =some u:=⟨_,List.getElem?_eq_getElem (by rw[HR.out.len,←HN.out];exact hlt)⟩
    have hm:=List.mem_of_getElem? ha;have hv6:=(HG.out.act a hm).len;have hex:F64 a.ex:=by have:=(ctxOk_ex (HG.out.act a hm).ctx).1;unfold fdelay at this;unfold F64;simp at this;omega
    have hlg:=lGet_at HG.out ha;have hcr:=HA.out.regs k a x ha hx;have hrg:=HR.out.regs k u a hu ha;obtain⟨xa',xc',hxe,_,hrow⟩:=act_row HA.out.len HA.out.row;obtain⟨ga,rfl,hgl,_,hcl⟩:=hrow (by rw[←HN.out];omega);simp only[Value.slice.injEq] at hxe;obtain⟨rfl,-,rfl⟩:=hxe;obtain⟨ra',rc',hre,_,hrow2⟩:=act_row HR.out.len HR.out.acts;rw[HRA.out] at hre
    obtain⟨g,rfl,hg,_,hcl2⟩:=hrow2 (by rw[←HN.out];omega);simp only[Value.slice.injEq] at hre;obtain⟨rfl,-,rfl⟩:=hre;have hQ2:=fun W (hW:Below wr.heap.size wr W)=>(show R.sb<W.heap.size∧g<W.heap.size∧ga<W.heap.size∧W.cell? ⟨R.sb,2,none⟩=some (.slice (some ⟨g,0,none⟩) n rc)∧ActC W ga (k*8) a x∧ActC W g (k*8) a u from by
      have h1:=HQ.out W (BW.trans (hW.mono BW.size));exact⟨h1.1,Nat.lt_of_lt_of_le hg hW.size,Nat.lt_of_lt_of_le hgl hW.size,h1.2.2.2.1,(hcl k a x ha hx).below hW hgl,(hcl2 k a u ha hu).below hW hg⟩)
    have HFD:=qq (fun W hW=>Find_yes L S a.an a.aq k a W hW HG.out hlg);obtain⟨ca,cc,rfl,_,_⟩:=reg_row hcr;obtain⟨va,vc,rfl,_,_⟩:=reg_row hrg;obtain⟨an,aq,oc,dp,ex,pa,de,rs⟩:=a;have HAC:=qq (fun ca cc B W (h:World.ownsRow W B 55 6 (.slice ca rs.length cc) rs.length (regsL rs))=>act15_of an aq oc dp ex pa de ca cc rs B W h (by dsimp only at hv6;omega))
    have HSA:=qq (fun a1 a2 c1 c2 B1 B2 T1 T2 W (h1:World.ownsRow W B1 T1 6 (.slice a1 rs.length c1) rs.length (regsL rs)) (h2:World.ownsRow W B2 T2 6 (.slice a2 rs.length c2) rs.length (regsL rs))=>rsameAct_self an aq oc dp ex pa de a1 a2 c1 c2 rs B1 B2 T1 T2 W h1 h2 hex (by dsimp only at hv6;omega));unfold ActOut at HFD;unfold ActC at hQ2;dsimp only[actC] at HFD hQ2 hcr hrg
    have HCR:=qq hcr;have HRG:=qq hrg;obtain⟨vn,hvn⟩:∃n,n=rs.length:=⟨_,rfl⟩
    simp only[←hvn] at HAC HSA HCR HRG HFD hQ2;have HQ2:=qq hQ2;clear ha hx hu hm hv6 hex hlg hcr hrg hcl hcl2 hrow hrow2 hQ2 hvn hg hgl;obtain⟨xl,gl,gal,q2,⟨e0,e1,e2,e3,e4,e5,e6,e7⟩,r0,r1,r2,r3,r4,r5,r6,r7⟩:=HQ2.out _ (Below.refl _ _);go_wp2_with fail;clear xl gl gal q2 e0 e1 e2 e3 e4 e5 e6 e7 r0 r1 r2 r3 r4 r5 r6 r7
    refine(HFD.out _ (H.out.below (bel_alloc (Below.refl wr.heap.size wr) _))).mono ?_;rintro e wr21 ⟨v',rfl,ho,hb21⟩;obtain⟨fa,fc,rfl,_,_⟩:=reg_row ho;have HCR:=qq (row_be (row_al HCR.out _) hb21);have HRG:=qq (row_be (row_al HRG.out _) hb21);have K21:=qq ((Blk.fresh _ _ _ (wr.heap.size) (by simp)).below hb21);have HB:=qq (below_then (bel_alloc (Below.refl wr.heap.size wr) _) hb21)
    have z21:=HB.out.size;clear hb21;have HO:=qq (ho)
    (try clear ho)
    have o22K21:=K21.out.lt;obtain⟨xl,gl,gal,q2,⟨e0,e1,e2,e3,e4,e5,e6,e7⟩,r0,r1,r2,r3,r4,r5,r6,r7⟩:=HQ2.out _ HB.out;obtain⟨lK21,qK21,fK21⟩:=K21.out;go_wp2_with fail;clear qK21 fK21 lK21 xl gl gal q2 e0 e1 e2 e3 e4 e5 e6 e7 r0 r1 r2 r3 r4 r5 r6 r7
    refine reg_start (fun w'=>World.ownsRow w' _ _ _ _ _ _∧World.ownsRow w' _ _ _ _ _ _∧Blk w' _ _∧World.ownsRow w' _ _ _ _ _ _∧Blk w' _ _∧Below wr.heap.size wr w') (by kernel_rfl) ⟨(row_dr (row_al HCR.out _)),(row_dr (row_al HRG.out _)),(K21.out.alloc _).drew,(row_dr (row_al HO.out _)),(Blk.fresh _ _ _ (wr21.heap.size) (by simp)).drew,(bel_drew (bel_alloc HB.out _))⟩ ?_;rintro wr22 hHeld
    obtain⟨HCR',HRG',K21',HO',K22',HB'⟩:=id hHeld;have HCR:=qq HCR';have HRG:=qq HRG';have K21:=qq K21';have HO:=qq HO';have K22:=qq K22';have HB:=qq HB';clear HCR' HRG' K21' HO' K22' HB';have z22:=HB.out.size;refine takeM (d:=some 77) 0 rfl rfl hHeld (fun w' hS'=>by have qA:=hS'.2.2.1.cell;clear hS';go_simp;(try rfl)) ?_;simp only[puts]
    refine takeM (d:=some 79) 2 rfl rfl hHeld (fun w' _=>by go_simp;(try rfl)) ?_;simp only[puts];refine takeM (d:=some 80) 3 rfl rfl hHeld (fun w' _=>by go_simp;(try rfl)) ?_;simp only[puts];refine takeM (d:=some 81) 4 rfl rfl hHeld (fun w' _=>by go_simp;(try rfl)) ?_;simp only[puts]
    refine takeM (d:=some 82) 5 rfl rfl hHeld (fun w' hS'=>by obtain⟨xl,gl,gal,q2,⟨e0,e1,e2,e3,e4,e5,e6,e7⟩,r0,r1,r2,r3,r4,r5,r6,r7⟩:=HQ2.out _ hS'.2.2.2.2.2;clear hS';go_simp;(try rfl)) ?_;simp only[puts];refine takeM (d:=some 83) 6 rfl rfl hHeld (fun w' _=>by go_simp;(try rfl)) ?_;simp only[puts];refine takeM (d:=some 84) 7 rfl rfl hHeld (fun w' _=>by go_simp;(try rfl)) ?_;simp only[puts]
    refine takeM (d:=some 85) 8 rfl rfl hHeld (fun w' hS'=>by obtain⟨xl,gl,gal,q2,⟨e0,e1,e2,e3,e4,e5,e6,e7⟩,r0,r1,r2,r3,r4,r5,r6,r7⟩:=HQ2.out _ hS'.2.2.2.2.2;clear hS';go_simp;(try rfl)) ?_;simp only[puts];refine one_M 1 (by kernel_rfl) ?_
    refine wpOp_call (d:=some 78) 1 97 _ _ [.agg #[an,aq,oc,dp,.float .f64 ex,pa,de,.slice ca vn cc]] rfl rfl rfl (enters_of Tryz.func97 (by kernel_rfl) rfl) (by rfl) (by rfl) ?_;refine(HAC.out _ _ _ _ HCR.out).mono ?_;rintro e wr23 ⟨b1,d1,rfl,hrow1,hb23⟩;clear hHeld;have HCR:=qq (row_be HCR.out hb23);have HRG:=qq (row_be HRG.out hb23);have K21:=qq (K21.out.below hb23)
    have HO:=qq (row_be HO.out hb23);have K22:=qq (K22.out.below hb23);have HB:=qq (below_then HB.out hb23);have z23:=HB.out.size;clear hb23;have HD1:=qq (hrow1)
    (try clear hrow1)
    refine ret_S ⟨HCR.out,HRG.out,K21.out,HO.out,K22.out,HB.out⟩ (fun hHeld=> ?_);simp only[puts];refine one_M 9 (by kernel_rfl) ?_;refine wpOp_call (d:=some 86) 9 96 _ _ [.agg #[an,aq,oc,dp,.float .f64 ex,pa,de,.slice b1 vn d1],.agg #[an,aq,oc,dp,.float .f64 ex,pa,de,.slice va vn vc]] rfl rfl rfl (enters_of Tryz.func96 (by kernel_rfl) rfl) (by rfl) (by rfl) ?_
    refine(HSA.out _ _ _ _ _ _ _ _ _ HD1.out HRG.out).mono ?_;rintro e wr24 ⟨rfl,hb24⟩;clear hHeld;have HCR:=qq (row_be HCR.out hb24);have HRG:=qq (row_be HRG.out hb24);have K21:=qq (K21.out.below hb24);have HO:=qq (row_be HO.out hb24);have K22:=qq (K22.out.below hb24);have HD1:=qq (row_be HD1.out hb24);have HB:=qq (below_then HB.out hb24);have z24:=HB.out.size;clear hb24
    refine ret_S ⟨HCR.out,HRG.out,K21.out,HO.out,K22.out,HB.out⟩ (fun hHeld=> ?_);simp only[puts];refine takeM (d:=some 87) 10 rfl rfl hHeld (fun w' _=>by go_simp;(try rfl)) ?_;simp only[puts];refine takeM (d:=some 88) 11 rfl rfl hHeld (fun w' _=>by go_simp;(try rfl)) ?_;simp only[puts];refine takeM (d:=some 89) 12 rfl rfl hHeld (fun w' _=>by go_simp;(try rfl)) ?_;simp only[puts]
    refine takeM (d:=some 90) 13 rfl rfl hHeld (fun w' _=>by go_simp;(try rfl)) ?_;simp only[puts];refine takeM (d:=some 91) 14 rfl rfl hHeld (fun w' _=>by go_simp;(try rfl)) ?_;simp only[puts];refine takeM (d:=some 92) 15 rfl rfl hHeld (fun w' _=>by go_simp;(try rfl)) ?_;simp only[puts]
    refine takeM (d:=some 93) 16 rfl rfl hHeld (fun w' hS'=>by have qA:=hS'.2.2.2.2.1.cell;clear hS';go_simp;(try rfl)) ?_;simp only[puts];refine takeM (d:=some 95) 18 rfl rfl hHeld (fun w' _=>by go_simp;(try rfl)) ?_;simp only[puts];refine takeM (d:=some 96) 19 rfl rfl hHeld (fun w' _=>by go_simp;(try rfl)) ?_;simp only[puts]
    refine takeM (d:=some 97) 20 rfl rfl hHeld (fun w' _=>by go_simp;(try rfl)) ?_;simp only[puts];refine takeM (d:=some 98) 21 rfl rfl hHeld (fun w' hS'=>by obtain⟨xl,gl,gal,q2,⟨e0,e1,e2,e3,e4,e5,e6,e7⟩,r0,r1,r2,r3,r4,r5,r6,r7⟩:=HQ2.out _ hS'.2.2.2.2.2;clear hS';go_simp;(try rfl)) ?_;simp only[puts];refine takeM (d:=some 99) 22 rfl rfl hHeld (fun w' _=>by go_simp;(try rfl)) ?_;simp only[puts]
    refine takeM (d:=some 100) 23 rfl rfl hHeld (fun w' _=>by go_simp;(try rfl)) ?_;simp only[puts];refine takeM (d:=some 101) 24 rfl rfl hHeld (fun w' hS'=>by obtain⟨xl,gl,gal,q2,⟨e0,e1,e2,e3,e4,e5,e6,e7⟩,r0,r1,r2,r3,r4,r5,r6,r7⟩:=HQ2.out _ hS'.2.2.2.2.2;clear hS';go_simp;(try rfl)) ?_;simp only[puts];refine one_M 17 (by kernel_rfl) ?_
    refine wpOp_call (d:=some 94) 17 97 _ _ [.agg #[an,aq,oc,dp,.float .f64 ex,pa,de,.slice fa vn fc]] rfl rfl rfl (enters_of Tryz.func97 (by kernel_rfl) rfl) (by rfl) (by rfl) ?_;refine(HAC.out _ _ _ _ HO.out).mono ?_;rintro e wr25 ⟨b2,d2,rfl,hrow2,hb25⟩;clear hHeld;have HCR:=qq (row_be HCR.out hb25);have HRG:=qq (row_be HRG.out hb25);have K21:=qq (K21.out.below hb25)
    have HO:=qq (row_be HO.out hb25);have K22:=qq (K22.out.below hb25);have HD1:=qq (row_be HD1.out hb25);have HB:=qq (below_then HB.out hb25);have z25:=HB.out.size;clear hb25;have HD2:=qq (hrow2)
    (try clear hrow2)
    refine ret_S ⟨HCR.out,HRG.out,K21.out,HO.out,K22.out,HB.out⟩ (fun hHeld=> ?_);simp only[puts];refine one_M 25 (by kernel_rfl) ?_;refine wpOp_call (d:=some 102) 25 96 _ _ [.agg #[an,aq,oc,dp,.float .f64 ex,pa,de,.slice b2 vn d2],.agg #[an,aq,oc,dp,.float .f64 ex,pa,de,.slice va vn vc]] rfl rfl rfl (enters_of Tryz.func96 (by kernel_rfl) rfl) (by rfl) (by rfl) ?_
    refine(HSA.out _ _ _ _ _ _ _ _ _ HD2.out HRG.out).mono ?_;rintro e wr26 ⟨rfl,hb26⟩;clear hHeld;have HCR:=qq (row_be HCR.out hb26);have HRG:=qq (row_be HRG.out hb26);have K21:=qq (K21.out.below hb26);have HO:=qq (row_be HO.out hb26);have K22:=qq (K22.out.below hb26);have HD1:=qq (row_be HD1.out hb26);have HD2:=qq (row_be HD2.out hb26);have HB:=qq (below_then HB.out hb26);have z26:=HB.out.size
    clear hb26;refine ret_S ⟨HCR.out,HRG.out,K21.out,HO.out,K22.out,HB.out⟩ (fun hHeld=> ?_);simp only[puts];refine takeM (d:=some 103) 26 rfl rfl hHeld (fun w' _=>by go_simp;(try rfl)) ?_;simp only[puts];refine takeM (d:=some 104) 27 rfl rfl hHeld (fun w' _=>by go_simp;(try rfl)) ?_;simp only[puts];refine doneM (by kernel_rfl) ?_ _;clear hHeld;go_wp2_with fail
    all_goals (go_roundw<;>first | exact⟨k+1,by omega,by go_num,below_then hB HB.out⟩ | (simp[intOf];omega))
  · obtain rfl:k=n:=by omega
    have HP:=qq (row_be HP.out hB);have HBW:=qq BW;clear hB hlt hk HB HA;obtain⟨w7,hw7⟩:∃w7:World,w7=wr:=⟨_,rfl⟩
    rw[←hw7] at HP HBW H HR⊢;clear BW hw7;go_wp2_with fail;go_loopw [108] (fun i wr=>∃j:Nat,j≤m∧i=.int .i64 (j:Nat)∧Below w7.heap.size w7 wr) (fun i _=>m - (intOf i).toNat)
    case atStart=>exact⟨0,by omega,by first | rfl | go_num,Below.refl _ _⟩
    case round=>
     obtain⟨j,hk,rfl,hB⟩:=hrel;have BW:Below w.heap.size w wr:=below_then HBW.out hB;have H:=qq (H.out.below hB);have HR:=qq (HR.out.below hB);by_cases hlt:j<m
     · have hki:(j:Int)<(m:Int):=by omega
       have hk0:(0:Int)≤(j:Int):=by omega
       have hj1:decide ((j:Int)≥0)=true:=decide_eq_true hk0;obtain⟨p,hp⟩:∃p,S.parts[j]? =some p:=⟨_,List.getElem?_eq_getElem (by rw[←HM.out];exact hlt)⟩
       have hpg:pGet S (j:Int)=some p:=by unfold pGet;rw[if_pos hk0,Int.toNat_natCast];exact hp
       have hpr:0≤(j:Int)∧(j:Int)<(S.parts.length:Int):=⟨hk0,by rw[←HM.out];exact hki⟩
       have HPY:=qq (fun W hW=>part_yes L S (j:Int) p W hW HG.out.parts hpg);have HRC:=qq (fun W hW=>rchild_of R S (j:Int) W hW HG.out.acts hk0 (by omega));obtain⟨pa1,pc1,hpe,_,hrow⟩:=part_row (row_be HP.out hB);obtain⟨gp,rfl,hgp,_,hcl⟩:=hrow (by omega);simp only[Value.slice.injEq] at hpe;obtain⟨hp1,-,hp2⟩:=hpe;subst hp1 hp2
       obtain⟨i',m',g,cap,hi',him',_,hm',c3,hsb,hg,hpc⟩:=rpart_at HR.out HG.out.parts hpg;obtain rfl:j=i':=by omega
       rw[←HM.out] at hm';obtain rfl:m'=m:=hm'
       have hQ2:=fun W (hW:Below wr.heap.size wr W)=>(show R.sb<W.heap.size∧g<W.heap.size∧gp<W.heap.size∧W.cell? ⟨R.sb,3,none⟩=some (.slice (some ⟨g,0,none⟩) m' cap)∧PartC W gp (j*7) p∧PartC W g (j*7) p from⟨Nat.lt_of_lt_of_le hsb hW.size,Nat.lt_of_lt_of_le hg hW.size,Nat.lt_of_lt_of_le hgp hW.size,(hW.cell (p:=⟨R.sb,3,none⟩) hsb).trans c3,PartC.below (hcl j p hp) hW hgp,PartC.below hpc hW hg⟩)
       cases hsc:schild S ((j:Int)+1) with
       | none=>
        rw[hsc] at HRC;dsimp only[oix] at HRC;have HCH:=qq (fun W hW=>Child_no L S (j:Int) W hW HG.out hpr hsc);obtain⟨pn,pq,pg,⟨sp,sd,ss,sh⟩⟩:=p;unfold PartC at hQ2;dsimp only[partA] at HPY hQ2;unfold ChildOut at HCH;have HQ2:=qq hQ2;clear hp hpg hpr hsc hrow hgp hcl c3 hsb hg hpc hQ2;have hne:=partNe pn pq pg sp sd ss sh
        obtain⟨xl,gl,gal,q3,⟨e0,e1,e2,e3,e4,e5,e6⟩,r0,r1,r2,r3,r4,r5,r6⟩:=HQ2.out _ (Below.refl _ _);go_wp2_with fail;clear xl gl gal q3 e0 e1 e2 e3 e4 e5 e6 r0 r1 r2 r3 r4 r5 r6;refine(HPY.out _ (H.out.below (bel_alloc (Below.refl wr.heap.size wr) _))).mono ?_;rintro e wr41 ⟨rfl,hb41⟩;have K41:=qq ((Blk.fresh _ _ _ (wr.heap.size) (by simp)).below hb41)
        have HB:=qq (below_then (bel_alloc (Below.refl wr.heap.size wr) _) hb41);have z41:=HB.out.size;clear hb41;have o42K41:=K41.out.lt;obtain⟨xl,gl,gal,q3,⟨e0,e1,e2,e3,e4,e5,e6⟩,r0,r1,r2,r3,r4,r5,r6⟩:=HQ2.out _ HB.out;obtain⟨lK41,qK41,fK41⟩:=K41.out;go_wp2_with fail;clear qK41 fK41 lK41 xl gl gal q3 e0 e1 e2 e3 e4 e5 e6 r0 r1 r2 r3 r4 r5 r6
        refine(HCH.out _ (H.out.below (bel_alloc HB.out _))).mono ?_;rintro e wr42 ⟨y1,y2,y3,y4,y5,y6,y7,y8,y9,y10,rfl,hb42⟩;have K41:=qq ((K41.out.alloc _).below hb42);have K42:=qq ((Blk.fresh _ _ _ (wr41.heap.size) (by simp)).below hb42);have HB:=qq (below_then (bel_alloc HB.out _) hb42);have z42:=HB.out.size;clear hb42;have o43K41:=K41.out.lt;have o43K42:=K42.out.lt
        obtain⟨xl,gl,gal,q3,⟨e0,e1,e2,e3,e4,e5,e6⟩,r0,r1,r2,r3,r4,r5,r6⟩:=HQ2.out _ HB.out;obtain⟨lK41,qK41,fK41⟩:=K41.out;obtain⟨lK42,qK42,fK42⟩:=K42.out;go_wp2_with fail;clear qK41 fK41 lK41 qK42 fK42 lK42 xl gl gal q3 e0 e1 e2 e3 e4 e5 e6 r0 r1 r2 r3 r4 r5 r6;refine(HRC.out _ (HR.out.below (bel_alloc HB.out _))).mono ?_;rintro e wr43 ⟨rfl,hb43⟩;have K41:=qq ((K41.out.alloc _).below hb43)
        have K42:=qq ((K42.out.alloc _).below hb43);have HB:=qq (below_then (bel_alloc HB.out _) hb43);have z43:=HB.out.size;clear hb43;obtain⟨xl,gl,gal,q3,⟨e0,e1,e2,e3,e4,e5,e6⟩,r0,r1,r2,r3,r4,r5,r6⟩:=HQ2.out _ HB.out;obtain⟨lK41,qK41,fK41⟩:=K41.out;obtain⟨lK42,qK42,fK42⟩:=K42.out;go_wp2_with fail;clear qK41 fK41 lK41 qK42 fK42 lK42 xl gl gal q3 e0 e1 e2 e3 e4 e5 e6 r0 r1 r2 r3 r4 r5 r6
        refine reg_start (fun w'=>Blk w' _ _∧Blk w' _ _∧Below wr.heap.size wr w') (by kernel_rfl) ⟨K41.out.drew,K42.out.drew,(bel_drew HB.out)⟩ ?_;rintro wr44 hHeld;obtain⟨K41',K42',HB'⟩:=id hHeld;have K41:=qq K41';have K42:=qq K42';have HB:=qq HB';clear K41' K42' HB';have z44:=HB.out.size
        refine takeM (d:=some 128) 0 rfl rfl hHeld (fun w' hS'=>by have qA:=hS'.1.cell;clear hS';go_simp;(try rfl)) ?_;simp only[puts];refine takeM (d:=some 130) 2 rfl rfl hHeld (fun w' _=>by go_simp;(try rfl)) ?_;simp only[puts];refine takeM (d:=some 131) 3 rfl rfl hHeld (fun w' _=>by go_simp;(try rfl)) ?_;simp only[puts]
        refine takeM (d:=some 132) 4 rfl rfl hHeld (fun w' _=>by go_simp;(try rfl)) ?_;simp only[puts];refine takeM (d:=some 133) 5 rfl rfl hHeld (fun w' hS'=>by obtain⟨xl,gl,gal,q3,⟨e0,e1,e2,e3,e4,e5,e6⟩,r0,r1,r2,r3,r4,r5,r6⟩:=HQ2.out _ hS'.2.2;clear hS';go_simp;(try rfl)) ?_;simp only[puts];refine takeM (d:=some 134) 6 rfl rfl hHeld (fun w' _=>by go_simp;(try rfl)) ?_;simp only[puts]
        refine takeM (d:=some 135) 7 rfl rfl hHeld (fun w' _=>by go_simp;(try rfl)) ?_;simp only[puts];refine takeM (d:=some 136) 8 rfl rfl hHeld (fun w' hS'=>by obtain⟨xl,gl,gal,q3,⟨e0,e1,e2,e3,e4,e5,e6⟩,r0,r1,r2,r3,r4,r5,r6⟩:=HQ2.out _ hS'.2.2;clear hS';go_simp;(try rfl)) ?_;simp only[puts];refine one_M 1 (by kernel_rfl) ?_
        refine wpOp_call (d:=some 129) 1 98 _ _ [.agg #[pn,pq,pg,sp,sd,ss,sh]] rfl rfl rfl (enters_of Tryz.func98 (by kernel_rfl) rfl) (by rfl) (by rfl) ?_;refine(part15_of pn pq pg sp sd ss sh _).mono ?_;rintro e wr45 ⟨rfl,hb45⟩;clear hHeld;have K41:=qq (K41.out.below hb45);have K42:=qq (K42.out.below hb45);have HB:=qq (below_then HB.out hb45);have z45:=HB.out.size;clear hb45
        refine ret_S ⟨K41.out,K42.out,HB.out⟩ (fun hHeld=> ?_);simp only[puts];refine takeM (d:=some 137) 9 rfl rfl hHeld (fun w' _=>by go_simp;(try rfl)) ?_;simp only[puts];refine takeM (d:=some 138) 10 rfl rfl hHeld (fun w' _=>by go_simp;(try rfl)) ?_;simp only[puts];refine takeM (d:=some 139) 11 rfl rfl hHeld (fun w' _=>by go_simp;(try rfl)) ?_;simp only[puts]
        refine takeM (d:=some 140) 12 rfl rfl hHeld (fun w' _=>by go_simp;(try rfl)) ?_;simp only[puts];refine takeM (d:=some 141) 13 rfl rfl hHeld (fun w' _=>by go_simp;(try rfl)) ?_;simp only[puts];refine takeM (d:=some 142) 14 rfl rfl hHeld (fun w' _=>by go_simp;(try rfl)) ?_;simp only[puts]
        refine takeM (d:=some 143) 15 rfl rfl hHeld (fun w' hS'=>by have qA:=hS'.2.1.cell;clear hS';go_simp;(try rfl)) ?_;simp only[puts];refine takeM (d:=some 145) 17 rfl rfl hHeld (fun w' _=>by go_simp;(try rfl)) ?_;simp only[puts];refine takeM (d:=some 146) 18 rfl rfl hHeld (fun w' _=>by go_simp;(try rfl)) ?_;simp only[puts]
        refine takeM (d:=some 147) 19 rfl rfl hHeld (fun w' _=>by go_simp;(try rfl)) ?_;simp only[puts];refine takeM (d:=some 148) 20 rfl rfl hHeld (fun w' hS'=>by obtain⟨xl,gl,gal,q3,⟨e0,e1,e2,e3,e4,e5,e6⟩,r0,r1,r2,r3,r4,r5,r6⟩:=HQ2.out _ hS'.2.2;clear hS';go_simp;(try rfl)) ?_;simp only[puts];refine takeM (d:=some 149) 21 rfl rfl hHeld (fun w' _=>by go_simp;(try rfl)) ?_;simp only[puts]
        refine takeM (d:=some 150) 22 rfl rfl hHeld (fun w' _=>by go_simp;(try rfl)) ?_;simp only[puts];refine takeM (d:=some 151) 23 rfl rfl hHeld (fun w' hS'=>by obtain⟨xl,gl,gal,q3,⟨e0,e1,e2,e3,e4,e5,e6⟩,r0,r1,r2,r3,r4,r5,r6⟩:=HQ2.out _ hS'.2.2;clear hS';go_simp;(try rfl)) ?_;simp only[puts];refine one_M 16 (by kernel_rfl) ?_
        refine wpOp_call (d:=some 144) 16 98 _ _ [.agg #[pn,pq,pg,sp,sd,ss,sh]] rfl rfl rfl (enters_of Tryz.func98 (by kernel_rfl) rfl) (by rfl) (by rfl) ?_;refine(part15_of pn pq pg sp sd ss sh _).mono ?_;rintro e wr46 ⟨rfl,hb46⟩;clear hHeld;have K41:=qq (K41.out.below hb46);have K42:=qq (K42.out.below hb46);have HB:=qq (below_then HB.out hb46);have z46:=HB.out.size;clear hb46
        refine ret_S ⟨K41.out,K42.out,HB.out⟩ (fun hHeld=> ?_);simp only[puts];refine takeM (d:=some 152) 24 rfl rfl hHeld (fun w' _=>by go_simp;(try rfl)) ?_;simp only[puts];refine takeM (d:=some 153) 25 rfl rfl hHeld (fun w' _=>by go_simp;(try rfl)) ?_;simp only[puts];refine takeM (d:=some 154) 26 rfl rfl hHeld (fun w' _=>by go_simp;(try rfl)) ?_;simp only[puts]
        refine takeM (d:=some 155) 27 rfl rfl hHeld (fun w' _=>by go_simp;(try rfl)) ?_;simp only[puts];refine takeM (d:=some 156) 28 rfl rfl hHeld (fun w' _=>by go_simp;(try rfl)) ?_;simp only[puts];refine takeM (d:=some 157) 29 rfl rfl hHeld (fun w' _=>by go_simp;(try rfl)) ?_;simp only[puts];refine takeM (d:=some 158) 30 rfl rfl hHeld (fun w' _=>by go_simp;(try rfl)) ?_;simp only[puts]
        refine takeM (d:=some 159) 31 rfl rfl hHeld (fun w' _=>by go_simp;(try rfl)) ?_;simp only[puts];refine takeM (d:=some 160) 32 rfl rfl hHeld (fun w' _=>by go_simp;(try rfl)) ?_;simp only[puts];refine takeM (d:=some 161) 33 rfl rfl hHeld (fun w' _=>by go_simp;(try rfl)) ?_;simp only[puts];refine takeM (d:=some 162) 34 rfl rfl hHeld (fun w' _=>by go_simp;(try rfl)) ?_;simp only[puts]
        refine skipM (d:=some 163) 35 rfl rfl hHeld ?_;simp only[puts];refine skipM (d:=some 164) 36 rfl rfl hHeld ?_;simp only[puts];refine skipM (d:=some 165) 37 rfl rfl hHeld ?_;simp only[puts];refine skipM (d:=some 166) 38 rfl rfl hHeld ?_;simp only[puts];refine skipM (d:=some 167) 39 rfl rfl hHeld ?_;simp only[puts];refine skipM (d:=some 168) 40 rfl rfl hHeld ?_;simp only[puts]
        refine skipM (d:=some 169) 41 rfl rfl hHeld ?_;simp only[puts];refine skipM (d:=some 170) 42 rfl rfl hHeld ?_;simp only[puts];refine skipM (d:=some 171) 43 rfl rfl hHeld ?_;simp only[puts];refine skipM (d:=some 172) 44 rfl rfl hHeld ?_;simp only[puts];refine skipM (d:=some 173) 45 rfl rfl hHeld ?_;simp only[puts]
        refine takeM (d:=some 174) 46 rfl rfl hHeld (fun w' _=>by go_simp;(try rfl)) ?_;simp only[puts];refine takeM (d:=some 175) 47 rfl rfl hHeld (fun w' _=>by go_simp;(try rfl)) ?_;simp only[puts];refine doneM (by kernel_rfl) ?_ _;clear hHeld;go_wp2_with fail
        all_goals (go_roundw<;>first | exact⟨j+1,by omega,by go_num,below_then hB HB.out⟩ | (simp[intOf];omega))
       | some ci=>
        rw[hsc] at HRC;dsimp only[oix] at HRC;obtain⟨a,ha,hma⟩:=schild_some hsc;have hv6:=(HG.out.act a hma).len;have hex:F64 a.ex:=by have:=(ctxOk_ex (HG.out.act a hma).ctx).1;unfold fdelay at this;unfold F64;simp at this;omega
        have hcl8:=(List.getElem?_eq_some_iff.1 ha).1;obtain⟨u,hu⟩:∃u,R.rv[ci]? =some u:=⟨_,List.getElem?_eq_getElem (by rw[HR.out.len];exact hcl8)⟩
        have hrg:=HR.out.regs ci u a hu ha;obtain⟨ra',rc',hre,_,hrow2⟩:=act_row HR.out.len HR.out.acts;rw[HRA.out] at hre;obtain⟨g2,rfl,hg2,_,hcl2⟩:=hrow2 (by omega);simp only[Value.slice.injEq] at hre;obtain⟨rfl,-,rfl⟩:=hre;rw[←HN.out] at hcl8;have hci1:(ci:Int)<(k:Int):=by omega
        have hci0:(0:Int)≤(ci:Int):=by omega
        have hci2:decide ((ci:Int)≥0)=true:=decide_eq_true hci0
        have hQ3:=fun W (hW:Below wr.heap.size wr W)=>(show(R.sb<W.heap.size∧g<W.heap.size∧gp<W.heap.size∧W.cell? ⟨R.sb,3,none⟩=some (.slice (some ⟨g,0,none⟩) m' cap)∧PartC W gp (j*7) p∧PartC W g (j*7) p)∧g2<W.heap.size∧W.cell? ⟨R.sb,2,none⟩=some (.slice (some ⟨g2,0,none⟩) k rc)∧ActC W g2 (ci*8) a u from⟨hQ2 W hW,Nat.lt_of_lt_of_le hg2 hW.size,(HQ.out W (BW.trans (hW.mono BW.size))).2.2.2.1,(hcl2 ci a u ha hu).below hW hg2⟩)
        clear hQ2;have HCH:=qq (fun W hW=>Child_is L S (j:Int) W hW HG.out hpr ci a hsc ha);obtain⟨va,vc,rfl,_,_⟩:=reg_row hrg;obtain⟨an,aq,oc,dp,ex,pa,de,rs⟩:=a;have HAC:=qq (fun ca cc B W (h:World.ownsRow W B 55 6 (.slice ca rs.length cc) rs.length (regsL rs))=>act15_of an aq oc dp ex pa de ca cc rs B W h (by dsimp only at hv6;omega))
        have HSA:=qq (fun a1 a2 c1 c2 B1 B2 T1 T2 W (h1:World.ownsRow W B1 T1 6 (.slice a1 rs.length c1) rs.length (regsL rs)) (h2:World.ownsRow W B2 T2 6 (.slice a2 rs.length c2) rs.length (regsL rs))=>rsameAct_self an aq oc dp ex pa de a1 a2 c1 c2 rs B1 B2 T1 T2 W h1 h2 hex (by dsimp only at hv6;omega));unfold ActOut at HCH;unfold ActC at hQ3;dsimp only[actC] at HCH hQ3 hrg;have HRG:=qq hrg
        obtain⟨vn,hvn⟩:∃n,n=rs.length:=⟨_,rfl⟩
        simp only[←hvn] at HAC HSA HRG HCH hQ3;obtain⟨pn,pq,pg,⟨sp,sd,ss,sh⟩⟩:=p;unfold PartC at hQ3;dsimp only[partA] at HPY hQ3;have HQ2:=qq hQ3;clear hp hpg hpr hsc hrow hgp hcl c3 hsb hg hpc hQ3 ha hma hv6 hex hu hrg hrow2 hg2 hcl2 hvn hcl8;have hne:=partNe pn pq pg sp sd ss sh
        obtain⟨⟨xl,gl,gal,q3,⟨e0,e1,e2,e3,e4,e5,e6⟩,r0,r1,r2,r3,r4,r5,r6⟩,g2l,q2,u0,u1,u2,u3,u4,u5,u6,u7⟩:=HQ2.out _ (Below.refl _ _);go_wp2_with fail;clear xl gl gal q3 e0 e1 e2 e3 e4 e5 e6 r0 r1 r2 r3 r4 r5 r6 g2l q2 u0 u1 u2 u3 u4 u5 u6 u7;refine(HPY.out _ (H.out.below (bel_alloc (Below.refl wr.heap.size wr) _))).mono ?_;rintro e wr41 ⟨rfl,hb41⟩;have HRG:=qq (row_be (row_al HRG.out _) hb41)
        have K41:=qq ((Blk.fresh _ _ _ (wr.heap.size) (by simp)).below hb41);have HB:=qq (below_then (bel_alloc (Below.refl wr.heap.size wr) _) hb41);have z41:=HB.out.size;clear hb41;have o42K41:=K41.out.lt;obtain⟨⟨xl,gl,gal,q3,⟨e0,e1,e2,e3,e4,e5,e6⟩,r0,r1,r2,r3,r4,r5,r6⟩,g2l,q2,u0,u1,u2,u3,u4,u5,u6,u7⟩:=HQ2.out _ HB.out;obtain⟨lK41,qK41,fK41⟩:=K41.out;go_wp2_with fail
        clear qK41 fK41 lK41 xl gl gal q3 e0 e1 e2 e3 e4 e5 e6 r0 r1 r2 r3 r4 r5 r6 g2l q2 u0 u1 u2 u3 u4 u5 u6 u7;refine(HCH.out _ (H.out.below (bel_alloc HB.out _))).mono ?_;rintro e wr42 ⟨v',rfl,ho,hb42⟩;obtain⟨fa,fc,rfl,_,_⟩:=reg_row ho;have HRG:=qq (row_be (row_al HRG.out _) hb42);have K41:=qq ((K41.out.alloc _).below hb42)
        have K42:=qq ((Blk.fresh _ _ _ (wr41.heap.size) (by simp)).below hb42);have HB:=qq (below_then (bel_alloc HB.out _) hb42);have z42:=HB.out.size;clear hb42;have HO:=qq (ho)
        (try clear ho)
        have o43K41:=K41.out.lt;have o43K42:=K42.out.lt;obtain⟨⟨xl,gl,gal,q3,⟨e0,e1,e2,e3,e4,e5,e6⟩,r0,r1,r2,r3,r4,r5,r6⟩,g2l,q2,u0,u1,u2,u3,u4,u5,u6,u7⟩:=HQ2.out _ HB.out;obtain⟨lK41,qK41,fK41⟩:=K41.out;obtain⟨lK42,qK42,fK42⟩:=K42.out;go_wp2_with fail;clear qK41 fK41 lK41 qK42 fK42 lK42 xl gl gal q3 e0 e1 e2 e3 e4 e5 e6 r0 r1 r2 r3 r4 r5 r6 g2l q2 u0 u1 u2 u3 u4 u5 u6 u7
        refine(HRC.out _ (HR.out.below (bel_alloc HB.out _))).mono ?_;rintro e wr43 ⟨rfl,hb43⟩;have HRG:=qq (row_be (row_al HRG.out _) hb43);have K41:=qq ((K41.out.alloc _).below hb43);have K42:=qq ((K42.out.alloc _).below hb43);have HO:=qq (row_be (row_al HO.out _) hb43);have K43:=qq ((Blk.fresh _ _ _ (wr42.heap.size) (by simp)).below hb43);have HB:=qq (below_then (bel_alloc HB.out _) hb43)
        have z43:=HB.out.size;clear hb43;obtain⟨⟨xl,gl,gal,q3,⟨e0,e1,e2,e3,e4,e5,e6⟩,r0,r1,r2,r3,r4,r5,r6⟩,g2l,q2,u0,u1,u2,u3,u4,u5,u6,u7⟩:=HQ2.out _ HB.out;obtain⟨lK41,qK41,fK41⟩:=K41.out;obtain⟨lK42,qK42,fK42⟩:=K42.out;obtain⟨lK43,qK43,fK43⟩:=K43.out;go_wp2_with fail
        clear qK41 fK41 lK41 qK42 fK42 lK42 qK43 fK43 lK43 xl gl gal q3 e0 e1 e2 e3 e4 e5 e6 r0 r1 r2 r3 r4 r5 r6 g2l q2 u0 u1 u2 u3 u4 u5 u6 u7;refine reg_start (fun w'=>World.ownsRow w' _ _ _ _ _ _∧Blk w' _ _∧Blk w' _ _∧World.ownsRow w' _ _ _ _ _ _∧Blk w' _ _∧Below wr.heap.size wr w') (by kernel_rfl) ⟨(row_dr HRG.out),K41.out.drew,K42.out.drew,(row_dr HO.out),K43.out.drew,(bel_drew HB.out)⟩ ?_
        rintro wr44 hHeld;obtain⟨HRG',K41',K42',HO',K43',HB'⟩:=id hHeld;have HRG:=qq HRG';have K41:=qq K41';have K42:=qq K42';have HO:=qq HO';have K43:=qq K43';have HB:=qq HB';clear HRG' K41' K42' HO' K43' HB';have z44:=HB.out.size;refine takeM (d:=some 128) 0 rfl rfl hHeld (fun w' hS'=>by have qA:=hS'.2.1.cell;clear hS';go_simp;(try rfl)) ?_;simp only[puts]
        refine takeM (d:=some 130) 2 rfl rfl hHeld (fun w' _=>by go_simp;(try rfl)) ?_;simp only[puts];refine takeM (d:=some 131) 3 rfl rfl hHeld (fun w' _=>by go_simp;(try rfl)) ?_;simp only[puts];refine takeM (d:=some 132) 4 rfl rfl hHeld (fun w' _=>by go_simp;(try rfl)) ?_;simp only[puts]
        refine takeM (d:=some 133) 5 rfl rfl hHeld (fun w' hS'=>by obtain⟨⟨xl,gl,gal,q3,⟨e0,e1,e2,e3,e4,e5,e6⟩,r0,r1,r2,r3,r4,r5,r6⟩,g2l,q2,u0,u1,u2,u3,u4,u5,u6,u7⟩:=HQ2.out _ hS'.2.2.2.2.2;clear hS';go_simp;(try rfl)) ?_;simp only[puts];refine takeM (d:=some 134) 6 rfl rfl hHeld (fun w' _=>by go_simp;(try rfl)) ?_;simp only[puts]
        refine takeM (d:=some 135) 7 rfl rfl hHeld (fun w' _=>by go_simp;(try rfl)) ?_;simp only[puts];refine takeM (d:=some 136) 8 rfl rfl hHeld (fun w' hS'=>by obtain⟨⟨xl,gl,gal,q3,⟨e0,e1,e2,e3,e4,e5,e6⟩,r0,r1,r2,r3,r4,r5,r6⟩,g2l,q2,u0,u1,u2,u3,u4,u5,u6,u7⟩:=HQ2.out _ hS'.2.2.2.2.2;clear hS';go_simp;(try rfl)) ?_;simp only[puts];refine one_M 1 (by kernel_rfl) ?_
        refine wpOp_call (d:=some 129) 1 98 _ _ [.agg #[pn,pq,pg,sp,sd,ss,sh]] rfl rfl rfl (enters_of Tryz.func98 (by kernel_rfl) rfl) (by rfl) (by rfl) ?_;refine(part15_of pn pq pg sp sd ss sh _).mono ?_;rintro e wr45 ⟨rfl,hb45⟩;clear hHeld;have HRG:=qq (row_be HRG.out hb45);have K41:=qq (K41.out.below hb45);have K42:=qq (K42.out.below hb45);have HO:=qq (row_be HO.out hb45)
        have K43:=qq (K43.out.below hb45);have HB:=qq (below_then HB.out hb45);have z45:=HB.out.size;clear hb45;refine ret_S ⟨HRG.out,K41.out,K42.out,HO.out,K43.out,HB.out⟩ (fun hHeld=> ?_);simp only[puts];refine takeM (d:=some 137) 9 rfl rfl hHeld (fun w' _=>by go_simp;(try rfl)) ?_;simp only[puts];refine takeM (d:=some 138) 10 rfl rfl hHeld (fun w' _=>by go_simp;(try rfl)) ?_;simp only[puts]
        refine takeM (d:=some 139) 11 rfl rfl hHeld (fun w' _=>by go_simp;(try rfl)) ?_;simp only[puts];refine takeM (d:=some 140) 12 rfl rfl hHeld (fun w' _=>by go_simp;(try rfl)) ?_;simp only[puts];refine takeM (d:=some 141) 13 rfl rfl hHeld (fun w' _=>by go_simp;(try rfl)) ?_;simp only[puts];refine takeM (d:=some 142) 14 rfl rfl hHeld (fun w' _=>by go_simp;(try rfl)) ?_;simp only[puts]
        refine takeM (d:=some 143) 15 rfl rfl hHeld (fun w' hS'=>by have qA:=hS'.2.2.1.cell;clear hS';go_simp;(try rfl)) ?_;simp only[puts];refine takeM (d:=some 145) 17 rfl rfl hHeld (fun w' _=>by go_simp;(try rfl)) ?_;simp only[puts];refine takeM (d:=some 146) 18 rfl rfl hHeld (fun w' _=>by go_simp;(try rfl)) ?_;simp only[puts]
        refine takeM (d:=some 147) 19 rfl rfl hHeld (fun w' _=>by go_simp;(try rfl)) ?_;simp only[puts];refine takeM (d:=some 148) 20 rfl rfl hHeld (fun w' hS'=>by obtain⟨⟨xl,gl,gal,q3,⟨e0,e1,e2,e3,e4,e5,e6⟩,r0,r1,r2,r3,r4,r5,r6⟩,g2l,q2,u0,u1,u2,u3,u4,u5,u6,u7⟩:=HQ2.out _ hS'.2.2.2.2.2;clear hS';go_simp;(try rfl)) ?_;simp only[puts]
        refine takeM (d:=some 149) 21 rfl rfl hHeld (fun w' _=>by go_simp;(try rfl)) ?_;simp only[puts];refine takeM (d:=some 150) 22 rfl rfl hHeld (fun w' _=>by go_simp;(try rfl)) ?_;simp only[puts]
        refine takeM (d:=some 151) 23 rfl rfl hHeld (fun w' hS'=>by obtain⟨⟨xl,gl,gal,q3,⟨e0,e1,e2,e3,e4,e5,e6⟩,r0,r1,r2,r3,r4,r5,r6⟩,g2l,q2,u0,u1,u2,u3,u4,u5,u6,u7⟩:=HQ2.out _ hS'.2.2.2.2.2;clear hS';go_simp;(try rfl)) ?_;simp only[puts];refine one_M 16 (by kernel_rfl) ?_
        refine wpOp_call (d:=some 144) 16 98 _ _ [.agg #[pn,pq,pg,sp,sd,ss,sh]] rfl rfl rfl (enters_of Tryz.func98 (by kernel_rfl) rfl) (by rfl) (by rfl) ?_;refine(part15_of pn pq pg sp sd ss sh _).mono ?_;rintro e wr46 ⟨rfl,hb46⟩;clear hHeld;have HRG:=qq (row_be HRG.out hb46);have K41:=qq (K41.out.below hb46);have K42:=qq (K42.out.below hb46);have HO:=qq (row_be HO.out hb46)
        have K43:=qq (K43.out.below hb46);have HB:=qq (below_then HB.out hb46);have z46:=HB.out.size;clear hb46;refine ret_S ⟨HRG.out,K41.out,K42.out,HO.out,K43.out,HB.out⟩ (fun hHeld=> ?_);simp only[puts];refine takeM (d:=some 152) 24 rfl rfl hHeld (fun w' _=>by go_simp;(try rfl)) ?_;simp only[puts];refine takeM (d:=some 153) 25 rfl rfl hHeld (fun w' _=>by go_simp;(try rfl)) ?_;simp only[puts]
        refine takeM (d:=some 154) 26 rfl rfl hHeld (fun w' _=>by go_simp;(try rfl)) ?_;simp only[puts];refine takeM (d:=some 155) 27 rfl rfl hHeld (fun w' _=>by go_simp;(try rfl)) ?_;simp only[puts];refine takeM (d:=some 156) 28 rfl rfl hHeld (fun w' _=>by go_simp;(try rfl)) ?_;simp only[puts];refine takeM (d:=some 157) 29 rfl rfl hHeld (fun w' _=>by go_simp;(try rfl)) ?_;simp only[puts]
        refine takeM (d:=some 158) 30 rfl rfl hHeld (fun w' _=>by go_simp;(try rfl)) ?_;simp only[puts];refine takeM (d:=some 159) 31 rfl rfl hHeld (fun w' _=>by go_simp;(try rfl)) ?_;simp only[puts];refine takeM (d:=some 160) 32 rfl rfl hHeld (fun w' _=>by go_simp;(try rfl)) ?_;simp only[puts];refine takeM (d:=some 161) 33 rfl rfl hHeld (fun w' _=>by go_simp;(try rfl)) ?_;simp only[puts]
        refine takeM (d:=some 162) 34 rfl rfl hHeld (fun w' _=>by go_simp;(try rfl)) ?_;simp only[puts];refine takeM (d:=some 163) 35 rfl rfl hHeld (fun w' hS'=>by have qA:=hS'.2.2.2.2.1.cell;clear hS';go_simp;(try rfl)) ?_;simp only[puts];refine takeM (d:=some 165) 37 rfl rfl hHeld (fun w' _=>by go_simp;(try rfl)) ?_;simp only[puts]
        refine takeM (d:=some 166) 38 rfl rfl hHeld (fun w' _=>by go_simp;(try rfl)) ?_;simp only[puts];refine takeM (d:=some 167) 39 rfl rfl hHeld (fun w' _=>by go_simp;(try rfl)) ?_;simp only[puts]
        refine takeM (d:=some 168) 40 rfl rfl hHeld (fun w' hS'=>by obtain⟨⟨xl,gl,gal,q3,⟨e0,e1,e2,e3,e4,e5,e6⟩,r0,r1,r2,r3,r4,r5,r6⟩,g2l,q2,u0,u1,u2,u3,u4,u5,u6,u7⟩:=HQ2.out _ hS'.2.2.2.2.2;clear hS';go_simp;(try rfl)) ?_;simp only[puts];refine takeM (d:=some 169) 41 rfl rfl hHeld (fun w' _=>by go_simp;(try rfl)) ?_;simp only[puts]
        refine takeM (d:=some 170) 42 rfl rfl hHeld (fun w' _=>by go_simp;(try rfl)) ?_;simp only[puts];refine takeM (d:=some 171) 43 rfl rfl hHeld (fun w' hS'=>by obtain⟨⟨xl,gl,gal,q3,⟨e0,e1,e2,e3,e4,e5,e6⟩,r0,r1,r2,r3,r4,r5,r6⟩,g2l,q2,u0,u1,u2,u3,u4,u5,u6,u7⟩:=HQ2.out _ hS'.2.2.2.2.2;clear hS';go_simp;(try rfl)) ?_;simp only[puts];refine one_M 36 (by kernel_rfl) ?_
        refine wpOp_call (d:=some 164) 36 97 _ _ [.agg #[an,aq,oc,dp,.float .f64 ex,pa,de,.slice fa vn fc]] rfl rfl rfl (enters_of Tryz.func97 (by kernel_rfl) rfl) (by rfl) (by rfl) ?_;refine(HAC.out _ _ _ _ HO.out).mono ?_;rintro e wr47 ⟨b1,d1,rfl,hrow1,hb47⟩;clear hHeld;have HRG:=qq (row_be HRG.out hb47);have K41:=qq (K41.out.below hb47);have K42:=qq (K42.out.below hb47)
        have HO:=qq (row_be HO.out hb47);have K43:=qq (K43.out.below hb47);have HB:=qq (below_then HB.out hb47);have z47:=HB.out.size;clear hb47;have HD1:=qq (hrow1)
        (try clear hrow1)
        refine ret_S ⟨HRG.out,K41.out,K42.out,HO.out,K43.out,HB.out⟩ (fun hHeld=> ?_);simp only[puts];refine one_M 44 (by kernel_rfl) ?_;refine wpOp_call (d:=some 172) 44 96 _ _ [.agg #[an,aq,oc,dp,.float .f64 ex,pa,de,.slice b1 vn d1],.agg #[an,aq,oc,dp,.float .f64 ex,pa,de,.slice va vn vc]] rfl rfl rfl (enters_of Tryz.func96 (by kernel_rfl) rfl) (by rfl) (by rfl) ?_
        refine(HSA.out _ _ _ _ _ _ _ _ _ HD1.out HRG.out).mono ?_;rintro e wr48 ⟨rfl,hb48⟩;clear hHeld;have HRG:=qq (row_be HRG.out hb48);have K41:=qq (K41.out.below hb48);have K42:=qq (K42.out.below hb48);have HO:=qq (row_be HO.out hb48);have K43:=qq (K43.out.below hb48);have HD1:=qq (row_be HD1.out hb48);have HB:=qq (below_then HB.out hb48);have z48:=HB.out.size;clear hb48
        refine ret_S ⟨HRG.out,K41.out,K42.out,HO.out,K43.out,HB.out⟩ (fun hHeld=> ?_);simp only[puts];refine takeM (d:=some 173) 45 rfl rfl hHeld (fun w' _=>by go_simp;(try rfl)) ?_;simp only[puts];refine takeM (d:=some 174) 46 rfl rfl hHeld (fun w' _=>by go_simp;(try rfl)) ?_;simp only[puts];refine takeM (d:=some 175) 47 rfl rfl hHeld (fun w' _=>by go_simp;(try rfl)) ?_;simp only[puts]
        refine doneM (by kernel_rfl) ?_ _;clear hHeld;go_wp2_with fail
        all_goals (go_roundw<;>first | exact⟨j+1,by omega,by go_num,below_then hB HB.out⟩ | (simp[intOf];omega))
     · obtain rfl:j=m:=by omega
       have HPN:=qq (fun W hW=>part_no L S (j:Int) W hW (by
         unfold pGet;rw[if_pos (by omega),Int.toNat_natCast];exact List.getElem?_eq_none_iff.2 (by rw[←HM.out];exact Nat.le_refl _)))
       have HCO:=qq (fun W hW=>Child_out L S (-1) W hW HG.out (by omega));unfold ChildOut at HCO;simp only[partA,part0] at HPN;go_wp2_with fail;refine(HPN.out _ (H.out.below (Below.refl wr.heap.size wr))).mono ?_;rintro e wr61 ⟨rfl,hb61⟩;have HB:=qq (below_then (Below.refl wr.heap.size wr) hb61);have z61:=HB.out.size;clear hb61;go_wp2_with fail
       refine(HCO.out _ (H.out.below (bel_alloc HB.out _))).mono ?_;rintro e wr62 ⟨y1,y2,y3,y4,y5,y6,y7,y8,y9,y10,rfl,hb62⟩;have HB:=qq (below_then (bel_alloc HB.out _) hb62);have z62:=HB.out.size;clear hb62;go_wp2_with fail;refine bodyPost_ret (v:=.bool true) (by simp[results,Tryz.results23,go_sem]) rfl ?_;exact⟨rfl,below_then BW (bel_alloc HB.out _)⟩
def turnOk (x:MSeat) (s h:Int):Bool:=decide (x.s≠14) && mRight ⟨x.p,x.d,s,h⟩
theorem turnOk_some {x t:MSeat} {s h:Int} (ht:sturn x s h=some t):turnOk x s h=true∧t=⟨x.p,x.d,s,h⟩:=by
 obtain⟨h1,h2,h3⟩:=sturn_some ht;refine⟨?_,h2⟩;unfold turnOk;rw[←h2,h3];simp[h1]
theorem turnOk_none {x:MSeat} {s h:Int} (ht:sturn x s h=none):turnOk x s h=false:=by
 unfold sturn at ht;unfold turnOk;split at ht
 · rename_i hn
   rcases hn with hn | hn
   · simp[hn]
   · simp[hn]
 · cases ht
theorem rturned_of (x:MSeat) (f:SFact) (w:World):Calls Tryz.prog 92 #[.agg #[x.p,x.d,x.s,x.h],factV f] w (Makes (.tuple #[.agg #[x.p,x.d,f.st,f.hw],.bool (turnOk x f.st f.hw)]) w):=by
 have hR:=fun W=>gright_of ⟨x.p,x.d,f.st,f.hw⟩ W
 unfold turnOk;generalize mRight ⟨x.p,x.d,f.st,f.hw⟩=mr at*;dsimp only[seatV] at hR;obtain⟨k,an,aq,rg,nd,pt,pr,oc,dp,pa,st,hw,de,ex⟩:=f;obtain⟨p,d,s,hh⟩:=x;dsimp only[factV,factC] at*;have HR:=qq hR;clear hR
 have K0:=qq ((((Blk.fresh w #[p,d,s,hh] 164 _ rfl).alloc (.cells #[k,an,aq,rg,nd,pt,pr,oc,dp,pa,st,hw,de,.float .f64 ex] 42)).alloc (.cells #[.int .i64 0,.int .i64 0,.int .i64 0,.int .i64 0] 164)).alloc (.cells #[p,d,st,hw] 164))
 have K3:=qq (Blk.fresh (((w.alloc (.cells #[p,d,s,hh] 164)).alloc (.cells #[k,an,aq,rg,nd,pt,pr,oc,dp,pa,st,hw,de,.float .f64 ex] 42)).alloc (.cells #[.int .i64 0,.int .i64 0,.int .i64 0,.int .i64 0] 164)) #[.int .i64 p,.int .i64 d,.int .i64 st,.int .i64 hw] 164 (w.heap.size+1+1+1) (by simp))
 have K2:=qq ((Blk.fresh ((w.alloc (.cells #[p,d,s,hh] 164)).alloc (.cells #[k,an,aq,rg,nd,pt,pr,oc,dp,pa,st,hw,de,.float .f64 ex] 42)) #[.int .i64 0,.int .i64 0,.int .i64 0,.int .i64 0] 164 (w.heap.size+1+1) (by simp)).alloc (.cells #[p,d,st,hw] 164));by_cases h14:s=14
 · subst h14;go_enter Tryz.func92,Tryz.ntmps92;go_wp2_with fail;go_region
   all_goals go_wp2_with fail
   all_goals exact bodyPost_ret (v:=.tuple #[.agg #[p,d,st,hw],.bool false]) (by simp[results,Tryz.results92,go_sem]) rfl ⟨rfl,by go_grown⟩
 · have t14:(s !=14)=true:=by simpa using h14
   rw[show decide (s≠14)=true by simpa using h14,Bool.true_and];clear h14;go_enter Tryz.func92,Tryz.ntmps92;go_wp2_with fail
   go_region_with (go_at_call 201;refine(HR.out _).mono ?_;rintro e w1 ⟨rfl,hb1⟩;have B1:Below w.heap.size w w1:=below_then (by go_grown) hb1;have hz1:=hb1.size;simp only[World.size_alloc,World.size_drew] at hz1;have L2:=qq ((K2.out.below (by go_grown)).below hb1);have L3:=qq ((K3.out.below (by go_grown)).below hb1);have L0:=qq ((K0.out.below (by go_grown)).below hb1);obtain⟨q2,f2⟩:=L2.out.out;obtain⟨q3,f3⟩:=L3.out.out;obtain⟨q0,f0⟩:=L0.out.out)
   all_goals go_wp2_with fail
   all_goals (refine bodyPost_ret (v:=.tuple #[.agg #[p,d,st,hw],.bool mr]) (by simp[results,Tryz.results92,go_sem,q2,f2]) rfl ⟨rfl,?_⟩)
   all_goals exact(((B1.setCell (p:=⟨w.heap.size+1+1,0,none⟩) (by simp;omega) _).setCell (p:=⟨w.heap.size+1+1,1,none⟩) (by simp;omega) _).setCell (p:=⟨w.heap.size+1+1,2,none⟩) (by simp;omega) _).setCell (p:=⟨w.heap.size+1+1,3,none⟩) (by simp;omega) _
theorem zip_set {α β:Type}:∀(l:List α) (r:List β) (i:Nat) (a:α) (b:β),(l.set i a).zip (r.set i b)=(l.zip r).set i (a,b)
 | [],r,i,a,b=>by simp
 | x::t,[],i,a,b=>by simp
 | x::t,y::u,0,a,b=>rfl
 | x::t,y::u,i+1,a,b=>by simp only[List.set_cons_succ,List.zip_cons_cons];rw[zip_set t u i a b]
theorem zip_len {l:List SAct} {r:List Value} (h:r.length=l.length):(l.zip r).length=l.length:=by rw[List.length_zip,h,Nat.min_self]
theorem act_set {w : World} {B : Nat} {T : TypeId} {g cap n : Nat} {al : List SAct} {rv : List Value} (hl : rv.length = al.length) (h : w.ownsRow B T 8 (.slice (some ⟨g, 0, none⟩) n cap) n (actsL al rv)) (i c : Nat) (hc : c < 8) (a a' : SAct) (v v' : Value) (ha : al[i]? = some a) (hv : rv[i]? = some v) (x : Value) (hx : actL a' v' = (actL a v).set c x) :
    (w.setCell ⟨g,i*8+c,none⟩ x).ownsRow B T 8 (.slice (some ⟨g,0,none⟩) n cap) n (actsL (al.set i a') (rv.set i v')):=by
 have hi:=(List.getElem?_eq_some_iff.1 ha).1;have hn:al.length=n:=by have:=h.1;unfold actsL at this;rw[flat_length _ 8 actL_len,zip_len hl] at this;omega
 have h2:=row_set h (i*8+c) x (by omega);unfold actsL at h2⊢;rw[zip_set,←flat_set (fun x:SAct×Value=>actL x.1 x.2) 8 actL_len (al.zip rv) i c (by rw[zip_len hl];exact hi) hc x (a',v') (by
   have h3:=(List.getElem?_eq_some_iff.1 ha).2;have h4:=(List.getElem?_eq_some_iff.1 hv).2;simp only[List.getElem_zip,h3,h4];exact hx)]
 exact h2
theorem RStoreAt.parts_in {R:RLoc} {S:Sto} {w w':World} (h:RStoreAt R S w) (ps:List SPart) (hz:w.heap.size≤w'.heap.size) (he:∀k,R.pv.ownBlock≠some k→k<w.heap.size→w'.heap[k]? =w.heap[k]?) (hrow:w'.ownsRow 0 166 7 R.pv ps.length (partsL ps)):RStoreAt R {S with parts:=ps} w':=by
 have hn:=h.ne_top;exact⟨h.blk.same hz (he _ hn.2.1 h.blk.lt),row_heap h.acts (fun k hk=>he k (hn.2.2 k hk) (h.acts.lt k hk).2),hrow,h.len,fun i v a hv ha=>row_heap (h.regs i v a hv ha) (fun k hk=>he k (h.ne_regs hv k hk).2.2 ((h.regs i v a hv ha).lt k hk).2),h.once⟩
theorem RStoreAt.parts_to {R:RLoc} {S:Sto} {w w':World} (h:RStoreAt R S w) (pv':Value) (ps:List SPart) (hz:w.heap.size≤w'.heap.size) (he:∀k,R.pv.ownBlock≠some k→k≠R.sb→k<w.heap.size→w'.heap[k]? =w.heap[k]?) (hblk:Blk w' R.sb #[S.node,S.next,R.av,pv']) (hrow:w'.ownsRow 0 166 7 pv' ps.length (partsL ps)) (hm:Moved R.foot R.pv pv'):RStoreAt ⟨R.sb,R.av,pv',R.rv⟩ {S with parts:=ps} w':=by
 have hn:=h.ne_top;refine⟨hblk,row_heap h.acts (fun k hk=>he k (hn.2.2 k hk) (fun e=>hn.1 (by rw[hk,e])) (h.acts.lt k hk).2),hrow,h.len,fun i v a hv ha=>row_heap (h.regs i v a hv ha) (fun k hk=>he k (h.ne_regs hv k hk).2.2 (h.ne_regs hv k hk).1 ((h.regs i v a hv ha).lt k hk).2),?_⟩;obtain⟨h1,h2,h3,h4,h5,h6⟩:=rfoot_nodup.1 h.once;rw[rfoot_nodup];rcases hm with e | ⟨m,e,hF⟩
 · exact⟨h1,by rw[e];exact h2,h3,h4,fun k hk=>⟨by rw[e];exact(h5 k hk).1,(h5 k hk).2⟩,fun k hk=>h6 k (by rw[←e];exact hk)⟩
 · rw[RLoc.mem] at hF;refine⟨h1,?_,h3,h4,fun k hk=>⟨?_,(h5 k hk).2⟩,fun k hk=> ?_⟩
   · rw[e];intro e';injection e' with e';exact hF (.inl e')
   · rw[e];intro e';injection e' with e';subst e';exact hF (.inr (.inl hk))
   · rw[e] at hk;injection hk with hk;subst hk;exact fun hb=>hF (.inr (.inr (.inr hb)))
theorem rmem_pv {R:RLoc} {v':Value} {n:Nat} (hm:v'.ownBlock=R.pv.ownBlock∨∃m,v'.ownBlock=some m∧n≤m):∀k∈(RLoc.mk R.sb R.av v' R.rv).foot,k∈R.foot∨n≤k:=by
 intro k hk;rw[RLoc.mem] at hk⊢;rcases hk with h | h | h | h
 · exact .inl (.inl h)
 · exact .inl (.inr (.inl h))
 · rcases hm with e | ⟨m,e,hl⟩
   · exact .inl (.inr (.inr (.inl (e.symm.trans h))))
   · rw[e] at h;injection h with h;subst h;exact .inr hl
 · exact .inl (.inr (.inr (.inr h)))
theorem rjoin_goes {R : RLoc} {S : Sto} {w W w2 : World} {v2 : Value} {p : SPart} (h : RStoreAt R S W) (hb : Below w.heap.size w W) (hg : W.grownBy w2 R.pv.ownBlock) (ho : w2.ownsRow 0 166 7 v2 (S.parts.length + 1) (partsL S.parts ++ partL p)) (hat : v2.ownBlock = R.pv.ownBlock ∨ v2.ownBlock = some W.heap.size) :
    RGoes R {S with parts:=S.parts ++ [p]} w (w2.setCell ⟨R.sb,3,none⟩ v2):=by
 have hn:=h.ne_top;have hm:Moved R.foot R.pv v2:=hat.imp id (fun e=>⟨_,e,fun hk=>by have:=h.lt _ hk;omega⟩);have hv2:v2.ownBlock≠some R.sb:=by
  rcases hat with e | e
  · rw[e];exact hn.2.1
  · rw[e];intro e';injection e' with e';have:=h.blk.lt;omega
 have hblk:Blk w2 R.sb #[S.node,S.next,R.av,R.pv]:=h.blk.same hg.size (hg.block _ h.blk.lt (fun e=>hn.2.1 e.symm));refine⟨⟨R.sb,R.av,v2,R.rv⟩,rfl,h.parts_to v2 _ (by simpa using hg.size) (fun k hk hs hlt=> ?_) ?_ ?_ hm,?_⟩
 · rw[Below.heap_setCell _ _ _ _ hs];exact hg.block k hlt (fun e=>hk e.symm)
 · exact hblk.set' 3 (by simp) v2
 · rw[List.length_append];refine row_heap ?_ (fun k hk=>Below.heap_setCell _ _ _ _ (fun e=>hv2 (by rw[hk,e])));unfold partsL at ho⊢;rw[List.flatMap_append];simpa using ho
 · refine((Goes.of_below hb).trans ((Goes.grown hg (fun k hk=>RLoc.mem.2 (.inr (.inr (.inl hk))))).trans (Goes.setCell R.sb 3 v2 (RLoc.mem.2 (.inl rfl))))).change (fun k hk=> ?_);rcases rmem_pv (n:=W.heap.size) (hat.imp id (fun e=>⟨_,e,Nat.le_refl _⟩)) k hk with h1 | h1
   · exact .inl h1
   · exact .inr (Nat.le_trans hb.size h1)
theorem rseat_part_goes {R:RLoc} {S:Sto} {w w2:World} {g cap i:Nat} {p:SPart} (h:RStoreAt R S w) (hb:Below w.heap.size w w2) (hv:R.pv=.slice (some ⟨g,0,none⟩) S.parts.length cap) (hp:S.parts[i]? =some p) (t:MSeat):RGoes R {S with parts:=S.parts.set i {p with seat:=t}} w (putSeat4 w2 g (i*7+3) t):=by
 have h2:=h.below hb;have hrow:=h2.parts;rw[hv] at hrow;have hown:R.pv.ownBlock=some g:=by rw[hv];rfl
 refine⟨R,rfl,h2.parts_in _ (by rw[size_seat];exact Nat.le_refl _) (fun k hk _=>heap_seat _ _ _ _ _ (fun e=>hk (by rw[hown,e]))) ?_,(Goes.of_below hb).trans (Goes.seat g _ t (RLoc.mem.2 (.inr (.inr (.inl hown)))))⟩;rw[hv,List.length_set];exact part_seat hrow i p hp t
theorem rrg_part_goes {R:RLoc} {S:Sto} {w w2:World} {g cap i:Nat} {p:SPart} (h:RStoreAt R S w) (hb:Below w.heap.size w w2) (hv:R.pv=.slice (some ⟨g,0,none⟩) S.parts.length cap) (hp:S.parts[i]? =some p) (r:Int):RGoes R {S with parts:=S.parts.set i {p with rg:=r}} w (w2.setCell ⟨g,i*7+2,none⟩ (.int .i64 r)):=by
 have h2:=h.below hb;have hrow:=h2.parts;rw[hv] at hrow;have hown:R.pv.ownBlock=some g:=by rw[hv];rfl
 have hi:=(List.getElem?_eq_some_iff.1 hp).1;have he:=(List.getElem?_eq_some_iff.1 hp).2;refine⟨R,rfl,h2.parts_in _ (by simp) (fun k hk _=>Below.heap_setCell _ _ _ _ (fun e=>hk (by rw[hown,e]))) ?_,(Goes.of_below hb).trans (Goes.setCell g _ _ (RLoc.mem.2 (.inr (.inr (.inl hown)))))⟩;rw[hv,List.length_set];have hr:=row_set hrow (i*7+2) (.int .i64 r) (by omega)
 rw[show(partsL S.parts).set (i*7+2) (.int .i64 r)=partsL (S.parts.set i {p with rg:=r}) from flat_set partL 7 partL_len _ i 2 hi (by decide) _ _ (by rw[he];rfl)] at hr;exact hr
theorem rdec_goes {R:RLoc} {S:Sto} {w w2:World} {g cap i:Nat} {a:SAct} (h:RStoreAt R S w) (hb:Below w.heap.size w w2) (hv:R.av=.slice (some ⟨g,0,none⟩) S.acts.length cap) (ha:S.acts[i]? =some a) (d:Int):RGoes R {S with acts:=S.acts.set i {a with de:=d}} w (w2.setCell ⟨g,i*8+6,none⟩ (.int .i64 d)):=by
 have h2:=h.below hb;have hown:R.av.ownBlock=some g:=by rw[hv];rfl
 have hn:=h.ne_top;obtain⟨v,hvi⟩:∃v,R.rv[i]? =some v:=⟨_,List.getElem?_eq_getElem (by rw[h.len];exact(List.getElem?_eq_some_iff.1 ha).1)⟩
 have hset:R.rv.set i v=R.rv:=by
  obtain⟨hi,he⟩:=List.getElem?_eq_some_iff.1 hvi;rw[←he,List.set_getElem_self]
 refine⟨R,rfl,⟨h2.blk.same (by simp) (Below.heap_setCell _ _ _ _ (fun e=>hn.1 (by rw[hown,e]))),?_,row_heap h2.parts (fun k hk=>Below.heap_setCell _ _ _ _ (fun e=>hn.2.2 g hown (by rw[hk,e]))),by rw[List.length_set];exact h.len,fun j u b hu hb'=> ?_,h.once⟩,(Goes.of_below hb).trans (Goes.setCell g _ _ (RLoc.mem.2 (.inr (.inl hown))))⟩
 · have hr:=h2.acts;rw[hv] at hr⊢;have:=act_set h.len hr i 6 (by decide) a {a with de:=d} v v ha hvi (.int .i64 d) rfl;rw[hset] at this;rw[List.length_set];exact this
 · have hb2:(S.acts.set i {a with de:=d})[j]? =some b:=hb';have key:∀c,S.acts[j]? =some c→c.regs=b.regs→(w2.setCell ⟨g,i*8+6,none⟩ (.int .i64 d)).ownsRow 0 199 6 u b.regs.length (regsL b.regs):=fun c hc hcb=>by
    have:=h2.regs j u c hu hc;rw[hcb] at this;exact row_heap this (fun k hk=>Below.heap_setCell _ _ _ _ (fun e=>(h.ne_regs hu k hk).2.1 (by rw[hown,e])))
   by_cases hij:i=j
   · subst hij;rw[List.getElem?_set_self (List.getElem?_eq_some_iff.1 ha).1] at hb2;injection hb2 with hb2
     exact key a ha (by rw[←hb2])
   · rw[List.getElem?_set_ne hij] at hb2;exact key b hb2 rfl
end Go.Proofs.YtlkajejbfojkeaaGreatDoor
