/- SmA, SmB, LwA, SpA, FcL, FcE -/
import Derived.Test.YtlkajejbfojkeaaGreatDoorGLdBToLoD
import Derived.Deep.AppendLies
set_option linter.unusedSimpArgs false
set_option linter.unusedVariables false
set_option maxRecDepth 100000
set_option maxHeartbeats 16000000
namespace Go.Proofs.YtlkajejbfojkeaaGreatDoor
open Go.RowKit
attribute [local go_sem] store_float
theorem infoRReg15:(Tryz.prog.info? 199).map (fun i=>(i.zero,i.size,i.bytes))=some (some (.agg #[.int .i64 0,.int .i64 0,.int .i64 0,.int .i64 0,.int .i64 0,.int .i64 0]),6,48):=by kernel_rfl
theorem part15_of (an aq rg p d s h:Int) (w:World):Calls Tryz.prog 98 #[.agg #[an,aq,rg,p,d,s,h]] w (Makes (.agg #[an,aq,rg,p,d,s,h]) w):=by
 go_enter Tryz.func98,Tryz.ntmps98;go_wp2_with fail;refine bodyPost_ret (v:=.agg #[an,aq,rg,p,d,s,h]) (by simp[results,Tryz.results98,go_sem]) rfl ?_;exact⟨rfl,(bel_alloc (bel_alloc (Below.refl w.heap.size w) _) _)⟩
theorem act15_of (an aq oc dp : Int) (ex : Nat) (pa de : Int) (va : Option Addr) (vc : Nat) (rs : List SReg) (B : Nat) (w : World) (h : w.ownsRow B 55 6 (.slice va rs.length vc) rs.length (regsL rs)) (hl : rs.length ≤ 1000) :
    Calls Tryz.prog 97 #[.agg #[an,aq,oc,dp,.float .f64 ex,pa,de,.slice va rs.length vc]] w fun e w'=>∃c cc,e=.returned (.agg #[an,aq,oc,dp,.float .f64 ex,pa,de,.slice c rs.length cc])∧w'.ownsRow w.heap.size 199 6 (.slice c rs.length cc) rs.length (regsL rs)∧Below w.heap.size w w':=by
 obtain⟨i0,ei,ez,es,eb⟩:=info_parts infoRReg15;have HR:Hid (∀k,k<rs.length→∃r,rs[k]? =some r∧∃b,va=some ⟨b,0,none⟩∧b<w.heap.size∧RegC w b (k*6) r):=qq (fun k hk=>by
   obtain⟨a',cap',hv,_,hr⟩:=reg_row h;obtain⟨g,ha,hg,_,hc⟩:=hr (by omega);simp only[Value.slice.injEq,true_and] at hv;exact⟨rs[k],List.getElem?_eq_getElem hk,g,by rw[hv.1,ha],hg,hc k _ (List.getElem?_eq_getElem hk)⟩)
 clear h;obtain⟨n,hn⟩:∃n,n=rs.length:=⟨_,rfl⟩
 rw[←hn] at HR hl⊢;have HN:=qq hn;clear hn;obtain⟨W1,hW1⟩:∃W1,W1=((w.alloc (.cells #[an,aq,oc,dp,.float .f64 ex,pa,de,.slice va n vc] 51)).alloc (.cells #[.int .i64 0,.int .i64 0,.int .i64 0,.int .i64 0,.float .f64 0,.int .i64 0,.int .i64 0,.slice none 0 0] 116)):=⟨_,rfl⟩
 have HST:Hid (Below (w.heap.size+2) W1 (((w.alloc (.cells #[an,aq,oc,dp,.float .f64 ex,pa,de,.slice va n vc] 51)).alloc (.cells #[.int .i64 0,.int .i64 0,.int .i64 0,.int .i64 0,.float .f64 0,.int .i64 0,.int .i64 0,.slice none 0 0] 116)).alloc (.cells #[an,aq,oc,dp,.float .f64 ex,pa,de,.slice none 0 0] 116))):=qq (by rw[hW1];exact(Below.refl _ _).alloc (by simp) _)
 have HWB:Hid (Below w.heap.size w W1):=qq (by rw[hW1];go_grown)
 have HRB0:Hid (Blk W1 (w.heap.size+1) #[.int .i64 0,.int .i64 0,.int .i64 0,.int .i64 0,.float .f64 0,.int .i64 0,.int .i64 0,.slice none 0 0]):=qq (by rw[hW1];exact Blk.fresh (w.alloc (.cells #[an,aq,oc,dp,.float .f64 ex,pa,de,.slice va n vc] 51)) #[.int .i64 0,.int .i64 0,.int .i64 0,.int .i64 0,.float .f64 0,.int .i64 0,.int .i64 0,.slice none 0 0] 116 (w.heap.size+1) (by simp))
 have HZ:Hid (W1.heap.size=w.heap.size+2):=qq (by rw[hW1];simp);clear hW1;go_enter Tryz.func97,Tryz.ntmps97;go_wp2_with fail;go_loopw [16] (fun i wr=>∃(k:Nat) (v:Value),k≤n∧i=.int .i64 (k:Nat)∧Hid (wr.ownsRow (w.heap.size+3) 199 6 v k (regsL (rs.take k)))∧Hid (Blk wr (w.heap.size+1+1) #[an,aq,oc,dp,.float .f64 ex,pa,de,v])∧Hid (Below (w.heap.size+2) W1 wr)) (fun i _=>n - (intOf i).toNat)
 case atStart=>
  exact⟨0,.slice none 0 0,by omega,by first | rfl | go_num,qq (World.ownsRow_nil _ _ _ _),qq (Blk.fresh _ _ _ _ (by simp)),HST⟩
 case round=>
  obtain⟨k,v,hk,rfl,HO,HB,HW⟩:=hrel;obtain⟨av,cv,rfl⟩:=row_slice HO.out;have q:=HB.out.cell;by_cases hlt:k<n
  · obtain⟨r,hf,b,rfl,hbl,hat⟩:=HR.out k hlt;have BR:Below w.heap.size w wr:=HWB.out.trans (HW.out.mono (by omega));obtain⟨p0,p1,p2,p3,p4,p5⟩:=hat.below BR hbl;have hsz:=HB.out.lt;have HF:=qq hf;obtain⟨rn,rp,⟨sp,sd,ss,sh⟩⟩:=r;have qf:=HB.out.free;dsimp only at p0 p1 p2 p3 p4 p5;clear hat hf hbl BR
    go_wp2_with (at_builtin;refine wpList_append_own_at _ rfl _ _ 114 rfl (w.heap.size+3) 199 i0 (.agg #[.int .i64 0,.int .i64 0,.int .i64 0,.int .i64 0,.int .i64 0,.int .i64 0]) 6 48 Tryz.underlying114 ei ez es eb rfl (by decide) _ _ _ rfl ((HO.out.alloc _).alloc _) ⟨wr.heap.size+1,0,none⟩ 1 1 [.int .i64 rn,.int .i64 rp,.int .i64 sp,.int .i64 sd,.int .i64 ss,.int .i64 sh] (by rfl) rfl (lit_cells (Blk.fresh _ _ _ _ (by simp))) (by simp[Value.oneCell']) ?d3 ?d4 ?d5 ?_)
    case d3=>unfold maxLen;omega
    case d4=>omega
    case d5=>simp;omega
    intro v2 w3 hown hgrow _ hat;have hne:v2.ownBlock≠some (w.heap.size+1+1):=fun e=>by have:=(hown.lt _ e).1;omega
    have hne0:(Value.slice av k cv).ownBlock≠some (w.heap.size+1+1):=fun e=>by have:=(HO.out.lt _ e).1;omega
    have kB:=((HB.out.alloc (.cells #[rn,rp,sp,sd,ss,sh] 55)).alloc (.cells #[rn,rp,sp,sd,ss,sh] 199)).same hgrow.size (hgrow.block _ ((HB.out.alloc _).alloc _).lt (fun e=>hne0 e.symm));have R2:=qq (kB.set' 7 (by simp) v2);have R1:Hid ((w3.setCell ⟨w.heap.size+1+1,7,none⟩ v2).ownsRow (w.heap.size+3) 199 6 v2 (k+1) (regsL (rs.take (k+1)))):=qq (by
      refine row_heap ?_ (fun j hj=>Below.heap_setCell _ _ _ _ (fun e=>hne (by rw[hj,e])));have htk:rs.take (k+1)=rs.take k ++ [⟨rn,rp,⟨sp,sd,ss,sh⟩⟩]:=by
        obtain⟨hj,he⟩:=List.getElem?_eq_some_iff.1 HF.out;rw[List.take_succ_eq_append_getElem hj,he]
      rw[htk];unfold regsL at hown⊢;rw[List.flatMap_append];simpa[regL] using hown)
    have R3:Hid (Below (w.heap.size+2) W1 (w3.setCell ⟨w.heap.size+1+1,7,none⟩ v2)):=qq ((((HW.out.alloc (by omega) _).alloc (by simp;omega) _).grown hgrow (by simp;omega) (fun j hj=>by have:=(HO.out.lt _ hj).1;omega)).setCell (by simp) _);have c0:w3.cell? ⟨w.heap.size+1+1,7,none⟩=some (.slice av k cv):=kB.cell 7;have c1:=kB.free 7;obtain⟨a2,c2,rfl⟩:=row_slice hown
    clear hown hgrow hat kB q qf hne hne0;go_wp2_with fail
    all_goals (go_roundw<;>first | exact⟨k+1,_,by omega,by go_num,R1,R2,R3⟩ | (simp[intOf];omega))
  · obtain rfl:k=n:=by omega
    have HO2:=qq (show wr.ownsRow (w.heap.size+3) 199 6 (.slice av k cv) k (regsL rs) by
      have:=HO.out;rw[List.take_of_length_le (by rw[←HN.out];omega)] at this;exact this)
    have HRB:=qq (HRB0.out.below (by rw[HZ.out];exact HW.out));obtain⟨qr,fr⟩:=HRB.out.out;have lr:=HRB.out.lt;have BR:Below w.heap.size w wr:=HWB.out.trans (HW.out.mono (by omega));go_wp2_with fail
    exact bodyPost_ret (v:=.agg #[an,aq,oc,dp,.float .f64 ex,pa,de,.slice av k cv]) (by simp[results,Tryz.results97,go_sem,qr,fr,lr,Nat.ne_of_lt lr]) rfl ⟨av,cv,rfl,row_base (row_heap HO2.out (fun j hj=>heap8 _ _ _ _ _ _ _ _ _ _ _ (by have:=(HO2.out.lt j hj).1;omega))) (by omega),below8 BR _ (by omega) _ _ _ _ _ _ _ _⟩
theorem regNe (rn rp sp sd ss sh:Int) (w:World):(binOp .neq 199 (.agg #[rn,rp,sp,sd,ss,sh]) (.agg #[rn,rp,sp,sd,ss,sh])).run Tryz.prog w=.ok (.bool false) w:=by
 go_simp
theorem rsameAct_self (an aq oc dp : Int) (ex : Nat) (pa de : Int) (a1 a2 : Option Addr) (c1 c2 : Nat) (rs : List SReg) (B1 B2 : Nat) (T1 T2 : TypeId) (w : World) (h1 : w.ownsRow B1 T1 6 (.slice a1 rs.length c1) rs.length (regsL rs)) (h2 : w.ownsRow B2 T2 6 (.slice a2 rs.length c2) rs.length (regsL rs)) (hx : F64 ex) (hl : rs.length ≤ 1000) :
    Calls Tryz.prog 96 #[.agg #[an,aq,oc,dp,.float .f64 ex,pa,de,.slice a1 rs.length c1],.agg #[an,aq,oc,dp,.float .f64 ex,pa,de,.slice a2 rs.length c2]] w (Makes (.bool true) w):=by
 have G:∀(B:Nat) (T:TypeId) (v:Option Addr) (vc:Nat),w.ownsRow B T 6 (.slice v rs.length vc) rs.length (regsL rs)→Hid (∀k,k<rs.length→∃r,rs[k]? =some r∧∃b,v=some ⟨b,0,none⟩∧b<w.heap.size∧RegC w b (k*6) r):=fun B T v vc h=>qq (fun k hk=>by
   obtain⟨a',cap',hv,_,hr⟩:=reg_row h;obtain⟨g,ha,hg,_,hc⟩:=hr (by omega);simp only[Value.slice.injEq,true_and] at hv;exact⟨rs[k],List.getElem?_eq_getElem hk,g,by rw[hv.1,ha],hg,hc k _ (List.getElem?_eq_getElem hk)⟩)
 have H1:=G _ _ _ _ h1;have H2:=G _ _ _ _ h2;have HS:=qq (fun W=>rsame09_self an aq oc dp ex W hx);clear G h1 h2 hx;obtain⟨n,hn⟩:∃n,n=rs.length:=⟨_,rfl⟩
 rw[←hn] at H1 H2 hl⊢;clear hn;have B0:Below w.heap.size w ((w.alloc (.cells #[an,aq,oc,dp,.float .f64 ex,pa,de,.slice a1 n c1] 116)).alloc (.cells #[an,aq,oc,dp,.float .f64 ex,pa,de,.slice a2 n c2] 116)):=by go_grown
 have HA:=qq ((Blk.fresh w #[an,aq,oc,dp,.float .f64 ex,pa,de,.slice a1 n c1] 116 _ rfl).alloc (.cells #[an,aq,oc,dp,.float .f64 ex,pa,de,.slice a2 n c2] 116));have HB:=qq (Blk.fresh (w.alloc (.cells #[an,aq,oc,dp,.float .f64 ex,pa,de,.slice a1 n c1] 116)) #[.int .i64 an,.int .i64 aq,.int .i64 oc,.int .i64 dp,.float .f64 ex,.int .i64 pa,.int .i64 de,.slice a2 n c2] 116 (w.heap.size+1) (by simp))
 have HB0:=qq B0;clear B0;go_enter Tryz.func96,Tryz.ntmps96;go_wp2_with fail;refine(HS.out _).mono ?_;rintro e w5 ⟨rfl,hb5⟩;have HA:=qq (HA.out.below hb5);have HB:=qq (HB.out.below hb5);have HB0:=qq (below_then HB0.out hb5);clear hb5;obtain⟨qa,fa⟩:=HA.out.out;obtain⟨qb,fb⟩:=HB.out.out;go_wp2_with fail;clear qa fa qb fb
 go_loopw [38] (fun i wr=>∃k:Nat,k≤n∧i=.int .i64 (k:Nat)∧Below w5.heap.size w5 wr) (fun i _=>n - (intOf i).toNat)
 case atStart=>exact⟨0,by omega,by first | rfl | go_num,Below.refl _ _⟩
 case round=>
  obtain⟨k,hk,rfl,hB⟩:=hrel;have qa:=(HA.out.below hB).cell;have qb:=(HB.out.below hB).cell;have B1:Below w.heap.size w wr:=below_then HB0.out hB;by_cases hlt:k<n
  · obtain⟨f,hf,b1,rfl,hl1',hc1⟩:=H1.out k hlt;obtain⟨f',hf',b2,rfl,hl2',hc2⟩:=H2.out k hlt;obtain rfl:f=f':=by rw[hf] at hf';injection hf'
    have c1:=hc1.below B1 hl1';have c2:=hc2.below B1 hl2';have hki:(k:Int)<(n:Int):=by omega
    have hk0:(0:Int)≤(k:Int):=by omega
    clear hf hf' hc1 hc2;obtain⟨rn,rp,⟨sp,sd,ss,sh⟩⟩:=f;obtain⟨p0,p1,p2,p3,p4,p5⟩:=c1;obtain⟨r0,r1,r2,r3,r4,r5⟩:=c2;dsimp only at p0 p1 p2 p3 p4 p5 r0 r1 r2 r3 r4 r5;have hne:=regNe rn rp sp sd ss sh;have q1:=qa 7;have q2:=qb 7;clear qa qb;go_wp2_with fail;go_quiet (fail)
    all_goals go_wp2_with fail
    all_goals (go_roundw<;>first | exact⟨k+1,by omega,by go_num,below_then hB ⟨rfl,rfl,rfl,Nat.le_refl _,fun _ _=>rfl⟩⟩ | (simp[intOf];omega))
  · obtain rfl:k=n:=by omega
    go_wp2_with fail;go_ret;exact⟨rfl,B1⟩
theorem Child_is (L:SLoc) (S:Sto) (pt:Int) (w:World) (h:StoreAt L S w) (hG:StoGood S) (hp:0≤pt∧pt<(S.parts.length:Int)) (i:Nat) (a:SAct) (hc:schild S (pt+1)=some i) (ha:S.acts[i]? =some a):Calls Tryz.prog 27 #[.pointer (some ⟨L.sb,0,none⟩),.int .i64 pt] w (ActOut a w):=by
 have H:=qq h;have HH:=qq (fun W hW=>has_of L S pt W hW);rw[decide_eq_true hp] at HH;have HC:=qq (fun W hW=>child_of L S (pt+1) W hW hG);rw[if_neg (by omega)] at HC;rw[hc] at HC;have hm:=List.mem_of_getElem? ha;have hil:=(List.getElem?_eq_some_iff.1 ha).1;obtain⟨x,hx⟩:∃x,L.ab[i]? =some x:=⟨_,List.getElem?_eq_getElem (by rw[h.len];exact hil)⟩
 have hap:aptr L (some i)=.pointer (some ⟨x.1,0,none⟩):=by simp[aptr,hx]
 rw[hap] at HC;have HGY:=qq (fun W (hW:StoreAt L S W)=>got_yes x.1 a x.2 W (hW.act i x a hx ha).1 (hW.act i x a hx ha).2 (hG.act a hm).len);obtain⟨xb,xv⟩:=x;obtain⟨an,aq,oc,dp,ex,pa,de,rs⟩:=a;unfold ActOut at HGY⊢;dsimp only[actC] at*;obtain⟨vn,hvn⟩:∃n,n=rs.length:=⟨_,rfl⟩
 rw[←hvn] at HGY⊢;have h8:=hG.parts;clear h hG hc ha hm hil hx hap hvn;go_enter Tryz.func27,Tryz.ntmps27;go_wp2_with fail;refine(HH.out _ (H.out.below (bel_alloc (Below.refl w.heap.size w) _))).mono ?_;rintro e w1 ⟨rfl,rfl⟩;go_wp2_with fail;refine(HC.out _ (H.out.below (bel_alloc (Below.refl w.heap.size w) _))).mono ?_;rintro e w2 ⟨rfl,hb2⟩
 have K1:=qq ((Blk.fresh _ _ _ (w.heap.size) (by simp)).below hb2);have HB:=qq (below_then (bel_alloc (Below.refl w.heap.size w) _) hb2);have z2:=HB.out.size;clear hb2;obtain⟨lK1,qK1,fK1⟩:=K1.out;go_wp2_with fail;clear qK1 fK1 lK1;refine(HGY.out _ (H.out.below HB.out)).mono ?_;rintro e w3 ⟨v',rfl,ho,hb3⟩;obtain⟨va,vc,rfl,_,_⟩:=reg_row ho;have HZ0:=qq (HB.out).size;have ooK1:=K1.out.lt
 have K1:=qq (K1.out.below hb3);have HB:=qq (below_then HB.out hb3);have z3:=HB.out.size;clear hb3;have HO:=qq (ho);obtain⟨lK1,qK1,fK1⟩:=K1.out;go_wp2_with fail;have hV0:=(sst (sst (sst (sst (sst (sst (sst (sst K1.out 0 (.int .i64 an)) 1 (.int .i64 aq)) 2 (.int .i64 oc)) 3 (.int .i64 dp)) 4 (.float .f64 ex)) 5 (.int .i64 pa)) 6 (.int .i64 de)) 7 (.slice va vn vc))
 have hVq0:=hV0.cell;have hVf0:=hV0.free;refine bodyPost_ret (v:=.tuple #[.agg #[an,aq,oc,dp,.float .f64 ex,pa,de,.slice va vn vc],.bool true]) (by simp[results,Tryz.results27,go_sem,hVq0,hVf0]) rfl ?_;clear qK1 fK1 lK1
 exact⟨.slice va vn vc,rfl,row_base (row_st (row_st (row_st (row_st (row_st (row_st (row_st (row_st HO.out (p:=⟨w.heap.size,0,none⟩) (by(try dsimp only);omega) _) (p:=⟨w.heap.size,1,none⟩) (by(try dsimp only);omega) _) (p:=⟨w.heap.size,2,none⟩) (by(try dsimp only);omega) _) (p:=⟨w.heap.size,3,none⟩) (by(try dsimp only);omega) _) (p:=⟨w.heap.size,4,none⟩) (by(try dsimp only);omega) _) (p:=⟨w.heap.size,5,none⟩) (by(try dsimp only);omega) _) (p:=⟨w.heap.size,6,none⟩) (by(try dsimp only);omega) _) (p:=⟨w.heap.size,7,none⟩) (by(try dsimp only);omega) _) HZ0.out,(bst (bst (bst (bst (bst (bst (bst (bst HB.out w.heap.size 0 _) w.heap.size 1 _) w.heap.size 2 _) w.heap.size 3 _) w.heap.size 4 _) w.heap.size 5 _) w.heap.size 6 _) w.heap.size 7 _)⟩
theorem lGet_at {S:Sto} (hS:StoGood S) {i:Nat} {a:SAct} (ha:S.acts[i]? =some a):lGet S a.an a.aq=some (i,a):=by
 obtain⟨hi,he⟩:=List.getElem?_eq_some_iff.1 ha;have hf:sfind S a.an a.aq=some i:=by
  unfold sfind;rw[List.findIdx?_eq_some_iff_getElem];refine⟨hi,by rw[he];simp,fun j hj=> ?_⟩;have:=(List.pairwise_iff_getElem.1 hS.sorted) j i (by omega) hi hj;rw[he] at this;simp only[decide_eq_true_eq,not_and,Bool.not_eq_true,decide_eq_false_iff_not];intro _ h2;omega
 unfold lGet;rw[hf];simp only[ha]
theorem partNe (a b c d e f g:Int) (w:World):(binOp .neq 166 (.agg #[a,b,c,d,e,f,g]) (.agg #[a,b,c,d,e,f,g])).run Tryz.prog w=.ok (.bool false) w:=by
 go_simp
theorem num_of (n:Int) (h:0≤n∧n≤14) (ea:Int→Addr) (w:World) (hE:EnvS ea w):Calls Tryz.prog 20 #[errOf ea n] w (Makes (.int .i64 n) w):=by
 unfold errOf;split
 · rename_i h0;subst h0;exact num_nil w
 · exact num_some n (by omega) ea w hE.e
def exFs:List SFact:=[⟨1,1,0,0,0,0,0,1,0,0,0,0,0,4621256167635550208⟩,⟨2,1,0,0,0,0,1,0,0,0,0,0,0,0⟩,⟨3,1,0,0,0,0,0,0,0,0,5,0,0,0⟩]
def exAct:SAct:=⟨1,0,1,0,4621256167635550208,0,0,[⟨0,0,⟨1,1,5,0⟩⟩]⟩
theorem exFit:sfit ⟨1,0,[],[]⟩ exFs=(⟨1,1,[exAct],[]⟩,true):=by kernel_rfl
theorem exF64:∀f∈exFs,F64 f.ex:=by
 intro f hf;simp only[exFs,List.mem_cons,List.not_mem_nil,or_false] at hf;rcases hf with rfl | rfl | rfl<;>(unfold F64;decide)
theorem alive15_of (ea:Int→Addr) (w:World) (hE:EnvS ea w):Calls Tryz.prog 18 #[] w (Makes (.bool true) w):=by
 have HN:=qq (snew_yes 1 w (by omega));have HE:=qq hE;clear hE;go_enter Tryz.func18,Tryz.ntmps18;go_wp2_with fail;refine HN.out.mono ?_;rintro e w1 ⟨rfl,rfl⟩;obtain⟨w1,hw1⟩:∃W,W=w.alloc (.cells #[.int .i64 1,.int .i64 0,.slice none 0 0,.slice none 0 0] 154):=⟨_,rfl⟩
 have HB1:Hid (Below w.heap.size w w1):=qq (by rw[hw1];go_grown);have HZ1:Hid (w1.heap.size=w.heap.size+1):=qq (by rw[hw1];simp);have HS0:Hid (StoreAt ⟨w.heap.size,.slice none 0 0,.slice none 0 0,[]⟩ ⟨1,0,[],[]⟩ w1):=qq (by
   have hb:Blk w1 w.heap.size #[.int .i64 1,.int .i64 0,.slice none 0 0,.slice none 0 0]:=by rw[hw1];exact Blk.fresh w _ _ _ rfl
   exact⟨hb,World.ownsRow_nil _ _ _ _,World.ownsRow_nil _ _ _ _,fun i y a h=>by simp at h,by simp[SLoc.foot,Value.ownBlock,blocks]⟩)
 rw[←hw1];clear hw1
 obtain⟨W2,hW2⟩:∃W,W=(w1.alloc (.cells #[.int .i64 1,.int .i64 0] 36)).alloc (.cells #[.int .i64 1,.int .i64 1,.int .i64 0,.int .i64 0,.int .i64 0,.int .i64 0,.int .i64 0,.int .i64 1,.int .i64 0,.int .i64 0,.int .i64 0,.int .i64 0,.int .i64 0,.float .f64 4621256167635550208,.int .i64 2,.int .i64 1,.int .i64 0,.int .i64 0,.int .i64 0,.int .i64 0,.int .i64 1,.int .i64 0,.int .i64 0,.int .i64 0,.int .i64 0,.int .i64 0,.int .i64 0,.float .f64 0,.int .i64 3,.int .i64 1,.int .i64 0,.int .i64 0,.int .i64 0,.int .i64 0,.int .i64 0,.int .i64 0,.int .i64 0,.int .i64 0,.int .i64 5,.int .i64 0,.int .i64 0,.float .f64 0] 39):=⟨_,rfl⟩
 have HB2:Hid (Below w1.heap.size w1 W2):=qq (by rw[hW2];go_grown);have HK3:Hid (Blk W2 w1.heap.size #[.int .i64 1,.int .i64 0]):=qq (by rw[hW2];exact(Blk.fresh w1 #[.int .i64 1,.int .i64 0] 36 _ rfl).alloc _)
 have HKF:Hid (Blk W2 (w1.heap.size+1) #[.int .i64 1,.int .i64 1,.int .i64 0,.int .i64 0,.int .i64 0,.int .i64 0,.int .i64 0,.int .i64 1,.int .i64 0,.int .i64 0,.int .i64 0,.int .i64 0,.int .i64 0,.float .f64 4621256167635550208,.int .i64 2,.int .i64 1,.int .i64 0,.int .i64 0,.int .i64 0,.int .i64 0,.int .i64 1,.int .i64 0,.int .i64 0,.int .i64 0,.int .i64 0,.int .i64 0,.int .i64 0,.float .f64 0,.int .i64 3,.int .i64 1,.int .i64 0,.int .i64 0,.int .i64 0,.int .i64 0,.int .i64 0,.int .i64 0,.int .i64 0,.int .i64 0,.int .i64 5,.int .i64 0,.int .i64 0,.float .f64 0]):=qq (by rw[hW2];exact Blk.fresh _ _ _ _ (by simp))
 go_wp2_with fail;rw[←hW2];clear hW2;go_loopw [27] (fun i wr=>∃k:Nat,k≤3∧i=.int .i64 (k:Nat)∧Hid (∃U,sfit ⟨1,0,[],[]⟩ exFs=sfit U (exFs.drop k)∧StoGood U∧SGoes ⟨w.heap.size,.slice none 0 0,.slice none 0 0,[]⟩ U W2 wr)) (fun i _=>3 - (intOf i).toNat)
 case atStart=>exact⟨0,by omega,by first | rfl | go_num,qq ⟨_,rfl,splay_good (node:=1) (by omega) [],SGoes.same (HS0.out.below HB2.out) (Below.refl _ _)⟩⟩
 case round=>
  obtain⟨k,hk,rfl,HU⟩:=hrel;obtain⟨U,hU,hGU,hgo⟩:=HU.out;obtain⟨L1,hL1,hS1,hg1⟩:=hgo;dsimp only at hL1;have hz1:=HZ1.out;have hft:∀j∈(⟨w.heap.size,.slice none 0 0,.slice none 0 0,[]⟩:SLoc).foot,j=w.heap.size:=fun j hj=>by simpa[SLoc.foot,Value.ownBlock,blocks] using hj
  have hz2:=HB2.out.size;have hnl1:∀j∈L1.foot,w.heap.size≤j:=fun j hj=>by
   rcases hg1.new j hj with e | e
   · rw[hft j e];exact Nat.le_refl _
   · omega
  have hbe:Below w.heap.size w wr:=(HB1.out.trans (HB2.out.mono (by omega))).trans (hg1.below (fun j hj=>by rw[hft j hj];exact Nat.le_refl _) (by omega));have l3:=HK3.out.lt;have lF:=HKF.out.lt;have K3:=qq (HK3.out.same hg1.size (hg1.block _ l3 (fun h=>by have:=hft _ h;omega)));have KF:=qq (HKF.out.same hg1.size (hg1.block _ lF (fun h=>by have:=hft _ h;omega)));by_cases hlt:k<3
  · have hks:k<exFs.length:=by unfold exFs;exact hlt
    obtain⟨f,hf⟩:∃f,f=exFs[k]:=⟨_,rfl⟩
    have hst:sfit U (exFs.drop k)=if(sapply U f).2=0 then sfit (sapply U f).1 (exFs.drop (k+1)) else((sapply U f).1,false):=by
     rw[List.drop_eq_getElem_cons hks,←hf];rfl
    have hx:F64 f.ex:=by rw[hf];exact exF64 _ (List.getElem_mem hks)
    have h0:(sapply U f).2=0:=by
     rw[exFit,hst] at hU;by_cases h:(sapply U f).2=0
     · exact h
     · rw[if_neg h] at hU;injection hU with _ h2;cases h2
    rw[hst,if_pos h0] at hU;have hgood:StoGood (sapply U f).1:=sapply_good hGU;have HA:=qq (fun W (hW:EnvG L1 ea W) (hs:StoreAt L1 U W)=>apply_of L1 U f ea W hx hW hs hGU);obtain⟨T,hT⟩:∃T,T=(sapply U f).1:=⟨_,rfl⟩
    rw[←hT,h0] at HA;rw[←hT] at hU hgood
    have hcell:∀j v,(#[.int .i64 1,.int .i64 1,.int .i64 0,.int .i64 0,.int .i64 0,.int .i64 0,.int .i64 0,.int .i64 1,.int .i64 0,.int .i64 0,.int .i64 0,.int .i64 0,.int .i64 0,.float .f64 4621256167635550208,.int .i64 2,.int .i64 1,.int .i64 0,.int .i64 0,.int .i64 0,.int .i64 0,.int .i64 1,.int .i64 0,.int .i64 0,.int .i64 0,.int .i64 0,.int .i64 0,.int .i64 0,.float .f64 0,.int .i64 3,.int .i64 1,.int .i64 0,.int .i64 0,.int .i64 0,.int .i64 0,.int .i64 0,.int .i64 0,.int .i64 0,.int .i64 0,.int .i64 5,.int .i64 0,.int .i64 0,.float .f64 0]:Array Value)[k*14+j]? =some v→wr.cell? ⟨w1.heap.size+1,k*14+j,none⟩=some v:=fun j v h=>(KF.out.cell _).trans h
    have hat:FactAt wr (w1.heap.size+1) (k*14) f:=by
     have hf':exFs[k]? =some f:=by rw[hf];exact List.getElem?_eq_getElem hks
     clear hf;have hk3:k=0∨k=1∨k=2:=by omega
     clear hst hU hks;rcases hk3 with rfl | rfl | rfl<;>(injection hf' with e;subst e;exact⟨hcell 0 _ rfl,hcell 1 _ rfl,hcell 2 _ rfl,hcell 3 _ rfl,hcell 4 _ rfl,hcell 5 _ rfl,hcell 6 _ rfl,hcell 7 _ rfl,hcell 8 _ rfl,hcell 9 _ rfl,hcell 10 _ rfl,hcell 11 _ rfl,hcell 12 _ rfl,hcell 13 _ rfl⟩)
    have lFr:=KF.out.lt;have hki:(k:Int)<3:=by omega
    have hk0:(0:Int)≤(k:Int):=by omega
    have HU1:=qq hU;have HGD:=qq hgood;have HBE:=qq hbe;have HNL1:=qq hnl1;have HS1:=qq hS1;have HG1:=qq hg1;have HL1:=qq hL1;obtain⟨c0,c1,c2,c3,c4,c5,c6,c7,c8,c9,c10,c11,c12,c13⟩:=hat;clear hf hst hx h0 hU hgood hbe hnl1 hS1 hg1 hT hGU HU hcell hft hz1 hz2 l3 lF hks;obtain⟨k',an,aq,rg,nd,pt,pr,oc,dp,pa,st,hw,de,ex⟩:=f;dsimp only[factV,factC,ApplyEnds] at*;simp only[HL1.out] at HA;go_wp2_with fail
    refine(HA.out _ (envG_of HE.out (below_then HBE.out (by go_grown)) HNL1.out) (HS1.out.below (by go_grown))).mono ?_;rintro e w5 ⟨rfl,hs⟩;have HSG:=qq (show SGoes ⟨w.heap.size,.slice none 0 0,.slice none 0 0,[]⟩ T W2 w5 by
      obtain⟨L2,hL2,hS2,hg2⟩:=hs;exact⟨L2,by rw[hL2,HL1.out],hS2,(HG1.out.then_below (w2:=wr.alloc (.cells #[k',an,aq,rg,nd,pt,pr,oc,dp,pa,st,hw,de,.float .f64 ex] 39)) (by go_grown)).trans hg2⟩)
    clear hs;have he0:errOf ea 0=.nilIface:=rfl;simp only[he0];go_wp2_with fail;go_roundw
    case rel=>exact⟨k+1,by omega,by go_num,qq ⟨T,HU1.out,HGD.out,HSG.out⟩⟩
    case measure=>(simp[intOf];omega)
  · obtain rfl:k=3:=by omega
    rw[exFit] at hU;have hU2:U=⟨1,1,[exAct],[]⟩:=by
     have h:sfit U (exFs.drop 3)=(U,true):=rfl;rw[h] at hU;injection hU with h1 _
     exact h1.symm
    subst hU2;have HFD:=qq (fun W hW=>Find_yes L1 ⟨1,1,[exAct],[]⟩ 1 0 0 exAct W hW hGU (lGet_at (i:=0) hGU rfl));have HS1:=qq hS1;have HBE:=qq hbe;unfold ActOut exAct at HFD;dsimp only[actC,List.length] at HFD;simp only[hL1] at HFD;clear hU hS1 hbe hg1 hnl1 hGU HU hft hz1 hz2;have q3:=K3.out.cell;have f3:=K3.out.free;have l3':=K3.out.lt;have q30:=q3 0;have q31:=q3 1;go_wp2_with fail
    refine(HFD.out _ (HS1.out.below (by go_grown))).mono ?_;rintro e w5 ⟨v',rfl,ho,hb5⟩;have B5:=below_then HBE.out hb5;obtain⟨va,vc,rfl,_,hr⟩:=reg_row ho;obtain⟨g,rfl,hg,_,hc⟩:=hr (by decide);obtain⟨r0,r1,r2,r3,r4,r5⟩:=hc 0 _ rfl;dsimp only at r0 r1 r2 r3 r4 r5;clear ho hr hc q3 f3;go_wp2_with fail;go_ret;exact⟨rfl,below_then B5 (by go_grown)⟩
theorem encF_len8 {f:SFact} (h:fok f=true) (hx:F64 f.ex):∀x∈encF f,x.d.length≤8:=by
 have one:∀(i:Nat) (n:Int),∀x∈oneF i n,x.d.length≤8:=fun i n x hm=>by
  unfold oneF at hm;split at hm
  · cases hm
  · obtain rfl:=List.mem_singleton.1 hm;show(numB n.toNat).length≤8
    unfold numB;rw[List.length_reverse];exact lowB_len 8 _
 have all:∀(l:List Int) (i:Nat),∀x∈encN i l,x.d.length≤8:=by
  intro l
  induction l with
  | nil=>intro i x hm;cases hm
  | cons n t ih=>intro i x hm;exact(List.mem_append.1 hm).elim (one i n x) (ih (i+1) x)
 intro x hm;unfold encF at hm;rcases List.mem_append.1 hm with hm | hm
 · exact all _ _ x hm
 · split at hm
   · obtain rfl:=List.mem_singleton.1 hm;exact Nat.le_of_eq (fltF_fltB hx).2.1
   · cases hm
structure Keeps (node:Int) (sb:Nat) (w1:World) (S:Sto) (L:SLoc) (wr:World):Prop where
 sb:L.sb=sb
 node:S.node=node
 good:StoGood S
 room:SRoom S
 ex:SEx S
 at_:StoreAt L S wr
 foot:∀j∈L.foot,w1.heap.size≤j
 be:Below w1.heap.size w1 wr
theorem Keeps.below {node:Int} {sb:Nat} {w1 wr W:World} {S:Sto} {L:SLoc} (h:Keeps node sb w1 S L wr) (hb:Below wr.heap.size wr W):Keeps node sb w1 S L W:=⟨h.sb,h.node,h.good,h.room,h.ex,h.at_.below hb,h.foot,below_then h.be hb⟩
theorem Keeps.goes {node:Int} {sb:Nat} {w1 wr W:World} {S:Sto} {L:SLoc} {f:SFact} (h:Keeps node sb w1 S L wr) (hf:F64 f.ex) (hg:SGoes L (sapply S f).1 wr W):∃L',Keeps node sb w1 (sapply S f).1 L' W∧Goes L.foot L'.foot wr W:=by
 obtain⟨L',h1,h2,h3⟩:=hg;exact⟨L',⟨h1.trans h.sb,(sapply_node S f).trans h.node,sapply_good h.good,room_apply h.good h.room,ex_apply h.ex hf,h2,fun j hj=>(h3.new j hj).elim (h.foot j) (fun hn=>Nat.le_trans h.be.size hn),h.be.trans (h3.below h.foot h.be.size)⟩,h3⟩
theorem sfacts_len {S:Sto} (hG:StoGood S):(sfacts S).length≤200:=by
 have h1:=partsF_len S.parts 0;have h2:=flatF_len S.acts (fun a ha=>(hG.act a ha).len);have h3:(lastF S).length≤2:=by unfold lastF;split<;>simp
 have h4:=hG.parts;have h5:=hG.acts;unfold sfacts;rw[List.length_append,List.length_append];omega
theorem bytesF_len {f:SFact} (h:fok f=true) (hx:F64 f.ex):(bytesF f).length≤900:=by
 have h1:=encF_row h hx;unfold bytesF;have hd:∀x∈encF f,x.d.length≤8:=encF_len8 h hx;have h2:∀(xs:List Fld),(∀x∈xs,x.d.length≤8)→(joinB xs).length≤11*xs.length:=by
  intro xs
  induction xs with
  | nil=>intro _;simp[joinB]
  | cons x t ih=>
   intro h;have h3:=ih (fun y hy=>h y (by simp[hy]));have h4:=h x (by simp);have e:(joinB (x::t)).length=(x.d.length+3)+(joinB t).length:=by simp[joinB];omega
   simp only[List.length_cons];omega
 have h3:=h2 _ hd;have:=h1.2;omega
open Go.RowKit Go.Shelf
theorem infoFactR:(Tryz.prog.info? 42).map (fun i=>(i.zero,i.size,i.bytes))=some (some (.agg #[.int .i64 0,.int .i64 0,.int .i64 0,.int .i64 0,.int .i64 0,.int .i64 0,.int .i64 0,.int .i64 0,.int .i64 0,.int .i64 0,.int .i64 0,.int .i64 0,.int .i64 0,.float .f64 0]),14,112):=by kernel_rfl
def lastQ (l:List SAct):Int:=match l.getLast? with
 | none=> -1
 | some a=>a.aq
theorem lastQ_take {l:List SAct} {k:Nat} {a:SAct} (h:l[k]? =some a):lastQ (l.take (k+1))=a.aq:=by
 obtain⟨hk,he⟩:=List.getElem?_eq_some_iff.1 h;unfold lastQ;rw[List.take_succ_eq_append_getElem hk,he];simp
theorem lastF_eq {S:Sto} (hG:StoGood S):lastF S=if lastQ S.acts=S.next - 1 then[] else[⟨1,S.node,S.next - 1,0,0,0,0,1,0,0,0,0,0,0⟩,⟨5,S.node,S.next - 1,0,0,0,0,0,0,0,0,0,0,0⟩]:=by
 have hnx:=hG.next;unfold lastF;rcases List.eq_nil_or_concat S.acts with h | ⟨l,a,h⟩
 · have hs:sfind S S.node (S.next - 1)=none:=by unfold sfind;rw[h];rfl
   have hl:lastQ S.acts= -1:=by rw[h];rfl
   rw[hl,hs];by_cases h0:0<S.next
   · rw[if_pos ⟨h0,rfl⟩,if_neg (by omega)]
   · rw[if_neg (fun e=>h0 e.1),if_pos (by omega)]
 · rw[List.concat_eq_append] at h;have hm:a∈S.acts:=by rw[h];simp
   have hid:=(hG.act a hm).id;have hl:lastQ S.acts=a.aq:=by rw[h];unfold lastQ;simp
   rw[hl];by_cases hq:a.aq=S.next - 1
   · rw[if_pos hq,if_neg];rintro⟨_,hs⟩;exact sfind_none hs a hm ⟨hid.1,hq⟩
   · rw[if_neg hq,if_pos];refine⟨by omega,?_⟩;unfold sfind;rw[List.findIdx?_eq_none_iff];intro c hc;have hs:=hG.sorted;rw[h,List.pairwise_append] at hs;rw[h] at hc;rcases List.mem_append.1 hc with hc | hc
     · have:=hs.2.2 c hc a (by simp);simp;omega
     · obtain rfl:=List.mem_singleton.1 hc;simp;omega
structure FRow2 (B cb:Nat) (C:Array Value) (ab:Nat) (A:Array Value) (v:Value) (fs:List SFact) (w0 w:World):Prop where
 row:w.ownsRow B 42 14 v fs.length (factsL fs)
 blk:Blk w cb C
 ne:v.ownBlock≠some cb
 blk2:Blk w ab A
 ne2:v.ownBlock≠some ab
 be:Below w0.heap.size w0 w
theorem FRow2.below {B cb:Nat} {C:Array Value} {ab:Nat} {A:Array Value} {v:Value} {fs:List SFact} {w0 w w':World} (h:FRow2 B cb C ab A v fs w0 w) (hb:Below w.heap.size w w'):FRow2 B cb C ab A v fs w0 w':=⟨row_be h.row hb,h.blk.below hb,h.ne,h.blk2.below hb,h.ne2,below_then h.be hb⟩
theorem FRow2.snoc {B cb:Nat} {C:Array Value} {ab:Nat} {A:Array Value} {v v2:Value} {fs:List SFact} {f:SFact} {w0 w1 w2:World} (h:FRow2 B cb C ab A v fs w0 w1) (hB:w0.heap.size≤B) (hown:w2.ownsRow B 42 14 v2 (fs.length+1) (factsL fs ++factL f)) (hg:w1.grownBy w2 v.ownBlock) (hat:v2.ownBlock=v.ownBlock∨v2.ownBlock=some w1.heap.size):FRow2 B cb C ab A v2 (fs ++ [f]) w0 w2:=by
 have key:∀b D,Blk w1 b D→v.ownBlock≠some b→Blk w2 b D∧v2.ownBlock≠some b:=fun b D hb hn=>⟨hb.same hg.size (hg.block _ hb.lt (fun e=>hn e.symm)),fun e=>by
   rcases hat with h1 | h1
   · exact hn (by rw[←h1];exact e)
   · have:=hb.lt;rw[h1] at e;injection e with e
     omega⟩
 exact⟨by rw[List.length_append,factsL_snoc];exact hown,(key _ _ h.blk h.ne).1,(key _ _ h.blk h.ne).2,(key _ _ h.blk2 h.ne2).1,(key _ _ h.blk2 h.ne2).2,h.be.grown hg h.be.size (fun j hj=>Nat.le_trans hB (h.row.lt j hj).1)⟩
theorem rfacts_of (R:RLoc) (S:Sto) (w:World) (h:RStoreAt R S w) (hG:StoGood S):Calls Tryz.prog 34 #[.pointer (some ⟨R.sb,0,none⟩)] w (fun e w'=>∃a c,e=.returned (.slice a (sfacts S).length c)∧w'.ownsRow w.heap.size 42 14 (.slice a (sfacts S).length c) (sfacts S).length (factsL (sfacts S))∧Below w.heap.size w w'):=by
 obtain⟨i0,ei,ez,es,eb⟩:=info_parts infoFactR;obtain⟨pa,pc,hpv,hpl,hpr⟩:=part_row h.parts;obtain⟨aa,ac,hav,hal,har⟩:=act_row h.len h.acts;have h8:=hG.parts;have h9:=hG.acts;have HLN:=qq (fun a (ha:a∈S.acts)=>(hG.act a ha).len);have HPG:=qq (fun p (hp:p∈S.parts)=>(hG.part p hp).2.1);have HRGL:=qq h.len
 have HREG:=qq (fun(i:Nat) (v:Value) (a:SAct) (h1:R.rv[i]? =some v) (h2:S.acts[i]? =some a)=>reg_row (h.regs i v a h1 h2));have hnx:=hG.next;have hnd:=hG.node;have HSB:=qq (fun W (hW:Below w.heap.size w W)=>(h.below hW).blk);obtain⟨n,hn⟩:∃n,n=S.parts.length:=⟨_,rfl⟩
 obtain⟨na,hna⟩:∃n,n=S.acts.length:=⟨_,rfl⟩
 rw[←hn] at hpr h8 hpv;rw[←hna] at har h9 hav;have HAR:=qq har;have HPR:=qq hpr;have HN:=qq hn;have HNA:=qq hna;have HLST:=qq (lastF_eq hG);have HSF:Hid (sfacts S=partsF 0 S.parts ++(S.acts.flatMap actF ++lastF S)):=qq rfl;have hsb:=h.blk.lt;rw[hpv,hav] at HSB;obtain⟨l0,q0,f0⟩:=HSB.out w (Below.refl _ _)
 have HEM:Hid ((w.alloc (.cells #[] 42)).ownsRow w.heap.size 42 14 (.slice (some ⟨w.heap.size,0,none⟩) 0 0) 0 []):=qq (own_emptyB w w.heap.size 42 14 (Nat.le_refl _));have HB0:Hid (Below w.heap.size w (w.alloc (.cells #[] 42))):=qq (by go_grown);clear h hG hpr hpv hpl har hav hal hn hna;go_enter Tryz.func34,Tryz.ntmps34;go_wp2_with fail;clear q0 f0 l0
 go_loopw [3,21] (fun u cc wr=>∃k:Nat,k≤n∧cc=.int .i64 (k:Int)∧Hid (wr.ownsRow w.heap.size 42 14 u (partsF 0 (S.parts.take k)).length (factsL (partsF 0 (S.parts.take k))))∧Hid (Below w.heap.size w wr)) (fun _ cc _=>n - (intOf cc).toNat)
 case atStart=>exact⟨0,by omega,by first | rfl | go_num,HEM,HB0⟩
 case round=>
  obtain⟨k,hk,rfl,HO,HB⟩:=hrel;obtain⟨ua,uc,hu⟩:=row_slice HO.out;subst hu;have hk0:(0:Int)≤(k:Int):=by omega
  obtain⟨m,hm⟩:∃m,m=(partsF 0 (S.parts.take k)).length:=⟨_,rfl⟩
  have hm24:m≤24:=by have h1:=partsF_len (S.parts.take k) 0;rw[List.length_take] at h1;omega
  have HM:=qq hm;rw[←hm] at HO⊢;clear hm;have hwr:=HB.out.size;by_cases hlt:k<n
  · have hk1:(k:Int)<(n:Int):=by omega
    obtain⟨g,rfl,hg,_,hpt⟩:=HPR.out (by omega);obtain⟨p,hp⟩:∃p,S.parts[k]? =some p:=⟨_,List.getElem?_eq_getElem (by have:=HN.out;omega)⟩
    obtain⟨c0,c1,c2,c3,c4,c5,c6⟩:=(hpt k p hp).below HB.out hg;have hgw:g<wr.heap.size:=by omega
    have HTK:=qq (partsF_take hp);have HRG:=qq (HPG.out p (List.mem_of_getElem? hp));obtain⟨an,aq,rg,⟨sp,sd,ss,sh⟩⟩:=p;dsimp only at HRG;dsimp only at c0 c1 c2 c3 c4 c5 c6;have hb1:=(Below.refl wr.heap.size wr).alloc (Nat.le_refl _) (.cells #[an,aq,rg,sp,sd,ss,sh] 166);have KP:=qq (Blk.fresh wr #[an,aq,rg,sp,sd,ss,sh] 166 _ rfl)
    have HAT:Hid (∀(W:World) (v:Value) (l:List SFact) (N:Nat),W.ownsRow w.heap.size 42 14 v N (factsL (partsF 0 (S.parts.take k) ++l))→partsF 0 (S.parts.take (k+1))=partsF 0 (S.parts.take k) ++l→N=m+l.length→W.ownsRow w.heap.size 42 14 v (partsF 0 (S.parts.take (k+1))).length (factsL (partsF 0 (S.parts.take (k+1))))):=qq (fun W v l N h1 h2 h3=>by rw[h2,List.length_append,←HM.out,←h3];exact h1)
    clear hp hpt hlt;have HNE:Hid ((Value.slice ua m uc).ownBlock≠some wr.heap.size):=qq (fun e=>by have:=(HO.out.lt _ e).2;omega);have hal:=hb1.alloc (by simp) (.cells #[.int .i64 6,an,aq,.int .i64 0,.int .i64 0,.int .i64 ((k:Int)),sp,.int .i64 0,.int .i64 0,.int .i64 0,.int .i64 0,.int .i64 0,.int .i64 0,.float .f64 0] 42);have hrow:=row_be HO.out hal;have HBA:=qq (below_then HB.out hal)
    have HUB:=qq (fun j hj=>(HO.out.lt j hj));have KA:=qq (KP.out.alloc (.cells #[.int .i64 6,an,aq,.int .i64 0,.int .i64 0,.int .i64 ((k:Int)),sp,.int .i64 0,.int .i64 0,.int .i64 0,.int .i64 0,.int .i64 0,.int .i64 0,.float .f64 0] 42));have hnb:wr.heap.size≤wr.heap.size:=Nat.le_refl _;clear hal
    go_wp2_with (at_builtin;refine wpList_append_own_at _ rfl _ _ 76 rfl w.heap.size 42 i0 (.agg #[.int .i64 0,.int .i64 0,.int .i64 0,.int .i64 0,.int .i64 0,.int .i64 0,.int .i64 0,.int .i64 0,.int .i64 0,.int .i64 0,.int .i64 0,.int .i64 0,.int .i64 0,.float .f64 0]) 14 112 Tryz.underlying76 ei ez es eb rfl (by decide) _ _ _ rfl hrow ⟨wr.heap.size+1,0,none⟩ 1 1 (factL ⟨6,an,aq,0,0,(k:Int),sp,0,0,0,0,0,0,0⟩) (by rfl) rfl (lit_cells (Blk.fresh _ _ _ _ (by simp))) (factL_one ⟨6,an,aq,0,0,(k:Int),sp,0,0,0,0,0,0,0⟩) ?d3_1 ?d4_1 ?d5_1 ?_)
    case d3_1=>unfold maxLen;omega
    case d4_1=>omega
    case d5_1=>first | exact HBA.out.size | (have:=HBA.out.size;simpa using this)
    intro v2 w7 hown hgrow _ hat;obtain⟨ua2,uc2,hu2⟩:=row_slice hown;subst hu2
    have HO2:Hid (w7.ownsRow w.heap.size 42 14 (.slice ua2 (m+1) uc2) (m+1) (factsL (partsF 0 (S.parts.take k) ++ [⟨6,an,aq,0,0,(k:Int),sp,0,0,0,0,0,0,0⟩]))):=qq (by rw[show partsF 0 (S.parts.take k) ++ [⟨6,an,aq,0,0,(k:Int),sp,0,0,0,0,0,0,0⟩]=(partsF 0 (S.parts.take k)) ++ [⟨6,an,aq,0,0,(k:Int),sp,0,0,0,0,0,0,0⟩] by simp,factsL_snoc];exact hown)
    have HB2:=qq (HBA.out.grown hgrow HBA.out.size (fun j hj=>(HUB.out j hj).1));have KP2:=qq (KA.out.same hgrow.size (hgrow.block _ KA.out.lt (fun e=>HNE.out e.symm)));have HNE2:Hid ((Value.slice ua2 (m+1) uc2).ownBlock≠some wr.heap.size):=qq (fun e=>by
      rcases hat with h1 | h1
      · rw[h1] at e;exact HNE.out e
      · rw[h1] at e;injection e with e;have h2:=KP.out.lt;(try simp at e h2);omega)
    clear hown hgrow hrow HUB HBA KA hat HNE;replace HO:=HO2;replace HB:=HB2;replace KP:=KP2;have HNE:=HNE2;clear HO2 HB2 KP2 HNE2;clear hb1;obtain⟨w6,hw6⟩:∃x,x=w7:=⟨_,rfl⟩
    subst hw6;obtain⟨lp,qp,fp⟩:=KP.out;clear fp lp;by_cases h7:rg= -1
    · have hr1:¬0≤rg:=by omega
      by_cases h8s:ss=1
      · have hs1:(ss !=1)=false:=by simpa using h8s
        go_wp2_with fail;go_roundw
        case rel=>exact⟨k+1,by omega,by go_num,qq (HAT.out _ _ [⟨6,an,aq,0,0,(k:Int),sp,0,0,0,0,0,0,0⟩] _ (by simpa using HO.out) (by rw[HTK.out];unfold partF;simp[h7,h8s]) rfl),HB⟩
        case measure=>simp[intOf];omega
      · have hs1:(ss !=1)=true:=by simpa using h8s
        clear qp;obtain⟨lp,qp,fp⟩:=KP.out;have hal:=(Below.refl w6.heap.size w6).alloc (Nat.le_refl _) (.cells #[.int .i64 8,.int .i64 0,.int .i64 0,.int .i64 0,.int .i64 0,.int .i64 ((k:Int)),.int .i64 0,.int .i64 0,.int .i64 0,.int .i64 0,ss,sh,.int .i64 0,.float .f64 0] 42);have hrow:=row_be HO.out hal;have HBA:=qq (below_then HB.out hal);have HUB:=qq (fun j hj=>(HO.out.lt j hj))
        have KA:=qq (KP.out.alloc (.cells #[.int .i64 8,.int .i64 0,.int .i64 0,.int .i64 0,.int .i64 0,.int .i64 ((k:Int)),.int .i64 0,.int .i64 0,.int .i64 0,.int .i64 0,ss,sh,.int .i64 0,.float .f64 0] 42));clear hal
        go_wp2_with (at_builtin;refine wpList_append_own_at _ rfl _ _ 76 rfl w.heap.size 42 i0 (.agg #[.int .i64 0,.int .i64 0,.int .i64 0,.int .i64 0,.int .i64 0,.int .i64 0,.int .i64 0,.int .i64 0,.int .i64 0,.int .i64 0,.int .i64 0,.int .i64 0,.int .i64 0,.float .f64 0]) 14 112 Tryz.underlying76 ei ez es eb rfl (by decide) _ _ _ rfl hrow ⟨w6.heap.size,0,none⟩ 1 1 (factL ⟨8,0,0,0,0,(k:Int),0,0,0,0,ss,sh,0,0⟩) (by rfl) rfl (lit_cells (Blk.fresh _ _ _ _ (by simp))) (factL_one ⟨8,0,0,0,0,(k:Int),0,0,0,0,ss,sh,0,0⟩) ?d3_2 ?d4_2 ?d5_2 ?_)
        case d3_2=>unfold maxLen;omega
        case d4_2=>omega
        case d5_2=>first | exact HBA.out.size | (have:=HBA.out.size;simpa using this)
        intro v2 w7 hown hgrow _ hat;obtain⟨ua2,uc2,hu2⟩:=row_slice hown;subst hu2
        have HO2:Hid (w7.ownsRow w.heap.size 42 14 (.slice ua2 (m+1+1) uc2) (m+1+1) (factsL (partsF 0 (S.parts.take k) ++ [⟨6,an,aq,0,0,(k:Int),sp,0,0,0,0,0,0,0⟩,⟨8,0,0,0,0,(k:Int),0,0,0,0,ss,sh,0,0⟩]))):=qq (by rw[show partsF 0 (S.parts.take k) ++ [⟨6,an,aq,0,0,(k:Int),sp,0,0,0,0,0,0,0⟩,⟨8,0,0,0,0,(k:Int),0,0,0,0,ss,sh,0,0⟩]=(partsF 0 (S.parts.take k) ++ [⟨6,an,aq,0,0,(k:Int),sp,0,0,0,0,0,0,0⟩]) ++ [⟨8,0,0,0,0,(k:Int),0,0,0,0,ss,sh,0,0⟩] by simp,factsL_snoc];exact hown)
        have HB2:=qq (HBA.out.grown hgrow HBA.out.size (fun j hj=>(HUB.out j hj).1));have KP2:=qq (KA.out.same hgrow.size (hgrow.block _ KA.out.lt (fun e=>HNE.out e.symm)));have HNE2:Hid ((Value.slice ua2 (m+1+1) uc2).ownBlock≠some wr.heap.size):=qq (fun e=>by
          rcases hat with h1 | h1
          · rw[h1] at e;exact HNE.out e
          · rw[h1] at e;injection e with e;have h2:=KP.out.lt;(try simp at e h2);omega)
        clear hown hgrow hrow HUB HBA KA hat HNE;replace HO:=HO2;replace HB:=HB2;replace KP:=KP2;have HNE:=HNE2;clear HO2 HB2 KP2 HNE2;obtain⟨w6,hw6⟩:∃x,x=w7:=⟨_,rfl⟩
        subst hw6;obtain⟨lp,qp,fp⟩:=KP.out;clear fp lp;go_wp2_with fail;go_roundw
        case rel=>exact⟨k+1,by omega,by go_num,qq (HAT.out _ _ [⟨6,an,aq,0,0,(k:Int),sp,0,0,0,0,0,0,0⟩,⟨8,0,0,0,0,(k:Int),0,0,0,0,ss,sh,0,0⟩] _ (by simpa using HO.out) (by rw[HTK.out];unfold partF;simp[h7,h8s]) rfl),HB⟩
        case measure=>simp[intOf];omega
    · have hr1:0≤rg:=by have:=HRG.out;omega
      have hal:=(Below.refl w6.heap.size w6).alloc (Nat.le_refl _) (.cells #[.int .i64 7,.int .i64 0,.int .i64 0,rg,.int .i64 0,.int .i64 ((k:Int)),.int .i64 0,.int .i64 0,.int .i64 0,.int .i64 0,.int .i64 0,.int .i64 0,.int .i64 0,.float .f64 0] 42);have hrow:=row_be HO.out hal;have HBA:=qq (below_then HB.out hal);have HUB:=qq (fun j hj=>(HO.out.lt j hj))
      have KA:=qq (KP.out.alloc (.cells #[.int .i64 7,.int .i64 0,.int .i64 0,rg,.int .i64 0,.int .i64 ((k:Int)),.int .i64 0,.int .i64 0,.int .i64 0,.int .i64 0,.int .i64 0,.int .i64 0,.int .i64 0,.float .f64 0] 42));clear hal
      go_wp2_with (at_builtin;refine wpList_append_own_at _ rfl _ _ 76 rfl w.heap.size 42 i0 (.agg #[.int .i64 0,.int .i64 0,.int .i64 0,.int .i64 0,.int .i64 0,.int .i64 0,.int .i64 0,.int .i64 0,.int .i64 0,.int .i64 0,.int .i64 0,.int .i64 0,.int .i64 0,.float .f64 0]) 14 112 Tryz.underlying76 ei ez es eb rfl (by decide) _ _ _ rfl hrow ⟨w6.heap.size,0,none⟩ 1 1 (factL ⟨7,0,0,rg,0,(k:Int),0,0,0,0,0,0,0,0⟩) (by rfl) rfl (lit_cells (Blk.fresh _ _ _ _ (by simp))) (factL_one ⟨7,0,0,rg,0,(k:Int),0,0,0,0,0,0,0,0⟩) ?d3_3 ?d4_3 ?d5_3 ?_)
      case d3_3=>unfold maxLen;omega
      case d4_3=>omega
      case d5_3=>first | exact HBA.out.size | (have:=HBA.out.size;simpa using this)
      intro v2 w7 hown hgrow _ hat;obtain⟨ua2,uc2,hu2⟩:=row_slice hown;subst hu2
      have HO2:Hid (w7.ownsRow w.heap.size 42 14 (.slice ua2 (m+1+1) uc2) (m+1+1) (factsL (partsF 0 (S.parts.take k) ++ [⟨6,an,aq,0,0,(k:Int),sp,0,0,0,0,0,0,0⟩,⟨7,0,0,rg,0,(k:Int),0,0,0,0,0,0,0,0⟩]))):=qq (by rw[show partsF 0 (S.parts.take k) ++ [⟨6,an,aq,0,0,(k:Int),sp,0,0,0,0,0,0,0⟩,⟨7,0,0,rg,0,(k:Int),0,0,0,0,0,0,0,0⟩]=(partsF 0 (S.parts.take k) ++ [⟨6,an,aq,0,0,(k:Int),sp,0,0,0,0,0,0,0⟩]) ++ [⟨7,0,0,rg,0,(k:Int),0,0,0,0,0,0,0,0⟩] by simp,factsL_snoc];exact hown)
      have HB2:=qq (HBA.out.grown hgrow HBA.out.size (fun j hj=>(HUB.out j hj).1));have KP2:=qq (KA.out.same hgrow.size (hgrow.block _ KA.out.lt (fun e=>HNE.out e.symm)));have HNE2:Hid ((Value.slice ua2 (m+1+1) uc2).ownBlock≠some wr.heap.size):=qq (fun e=>by
        rcases hat with h1 | h1
        · rw[h1] at e;exact HNE.out e
        · rw[h1] at e;injection e with e;have h2:=KP.out.lt;(try simp at e h2);omega)
      clear hown hgrow hrow HUB HBA KA hat HNE;replace HO:=HO2;replace HB:=HB2;replace KP:=KP2;have HNE:=HNE2;clear HO2 HB2 KP2 HNE2;obtain⟨w6,hw6⟩:∃x,x=w7:=⟨_,rfl⟩
      subst hw6;obtain⟨lp,qp,fp⟩:=KP.out;clear fp lp;by_cases h8s:ss=1
      · have hs1:(ss !=1)=false:=by simpa using h8s
        go_wp2_with fail;go_roundw
        case rel=>exact⟨k+1,by omega,by go_num,qq (HAT.out _ _ [⟨6,an,aq,0,0,(k:Int),sp,0,0,0,0,0,0,0⟩,⟨7,0,0,rg,0,(k:Int),0,0,0,0,0,0,0,0⟩] _ (by simpa using HO.out) (by rw[HTK.out];unfold partF;simp[h7,h8s]) rfl),HB⟩
        case measure=>simp[intOf];omega
      · have hs1:(ss !=1)=true:=by simpa using h8s
        clear qp;obtain⟨lp,qp,fp⟩:=KP.out;have hal:=(Below.refl w6.heap.size w6).alloc (Nat.le_refl _) (.cells #[.int .i64 8,.int .i64 0,.int .i64 0,.int .i64 0,.int .i64 0,.int .i64 ((k:Int)),.int .i64 0,.int .i64 0,.int .i64 0,.int .i64 0,ss,sh,.int .i64 0,.float .f64 0] 42);have hrow:=row_be HO.out hal;have HBA:=qq (below_then HB.out hal);have HUB:=qq (fun j hj=>(HO.out.lt j hj))
        have KA:=qq (KP.out.alloc (.cells #[.int .i64 8,.int .i64 0,.int .i64 0,.int .i64 0,.int .i64 0,.int .i64 ((k:Int)),.int .i64 0,.int .i64 0,.int .i64 0,.int .i64 0,ss,sh,.int .i64 0,.float .f64 0] 42));clear hal
        go_wp2_with (at_builtin;refine wpList_append_own_at _ rfl _ _ 76 rfl w.heap.size 42 i0 (.agg #[.int .i64 0,.int .i64 0,.int .i64 0,.int .i64 0,.int .i64 0,.int .i64 0,.int .i64 0,.int .i64 0,.int .i64 0,.int .i64 0,.int .i64 0,.int .i64 0,.int .i64 0,.float .f64 0]) 14 112 Tryz.underlying76 ei ez es eb rfl (by decide) _ _ _ rfl hrow ⟨w6.heap.size,0,none⟩ 1 1 (factL ⟨8,0,0,0,0,(k:Int),0,0,0,0,ss,sh,0,0⟩) (by rfl) rfl (lit_cells (Blk.fresh _ _ _ _ (by simp))) (factL_one ⟨8,0,0,0,0,(k:Int),0,0,0,0,ss,sh,0,0⟩) ?d3_4 ?d4_4 ?d5_4 ?_)
        case d3_4=>unfold maxLen;omega
        case d4_4=>omega
        case d5_4=>first | exact HBA.out.size | (have:=HBA.out.size;simpa using this)
        intro v2 w7 hown hgrow _ hat;obtain⟨ua2,uc2,hu2⟩:=row_slice hown;subst hu2
        have HO2:Hid (w7.ownsRow w.heap.size 42 14 (.slice ua2 (m+1+1+1) uc2) (m+1+1+1) (factsL (partsF 0 (S.parts.take k) ++ [⟨6,an,aq,0,0,(k:Int),sp,0,0,0,0,0,0,0⟩,⟨7,0,0,rg,0,(k:Int),0,0,0,0,0,0,0,0⟩,⟨8,0,0,0,0,(k:Int),0,0,0,0,ss,sh,0,0⟩]))):=qq (by rw[show partsF 0 (S.parts.take k) ++ [⟨6,an,aq,0,0,(k:Int),sp,0,0,0,0,0,0,0⟩,⟨7,0,0,rg,0,(k:Int),0,0,0,0,0,0,0,0⟩,⟨8,0,0,0,0,(k:Int),0,0,0,0,ss,sh,0,0⟩]=(partsF 0 (S.parts.take k) ++ [⟨6,an,aq,0,0,(k:Int),sp,0,0,0,0,0,0,0⟩,⟨7,0,0,rg,0,(k:Int),0,0,0,0,0,0,0,0⟩]) ++ [⟨8,0,0,0,0,(k:Int),0,0,0,0,ss,sh,0,0⟩] by simp,factsL_snoc];exact hown)
        have HB2:=qq (HBA.out.grown hgrow HBA.out.size (fun j hj=>(HUB.out j hj).1));have KP2:=qq (KA.out.same hgrow.size (hgrow.block _ KA.out.lt (fun e=>HNE.out e.symm)));have HNE2:Hid ((Value.slice ua2 (m+1+1+1) uc2).ownBlock≠some wr.heap.size):=qq (fun e=>by
          rcases hat with h1 | h1
          · rw[h1] at e;exact HNE.out e
          · rw[h1] at e;injection e with e;have h2:=KP.out.lt;(try simp at e h2);omega)
        clear hown hgrow hrow HUB HBA KA hat HNE;replace HO:=HO2;replace HB:=HB2;replace KP:=KP2;have HNE:=HNE2;clear HO2 HB2 KP2 HNE2;obtain⟨w6,hw6⟩:∃x,x=w7:=⟨_,rfl⟩
        subst hw6;obtain⟨lp,qp,fp⟩:=KP.out;clear fp lp;go_wp2_with fail;go_roundw
        case rel=>exact⟨k+1,by omega,by go_num,qq (HAT.out _ _ [⟨6,an,aq,0,0,(k:Int),sp,0,0,0,0,0,0,0⟩,⟨7,0,0,rg,0,(k:Int),0,0,0,0,0,0,0,0⟩,⟨8,0,0,0,0,(k:Int),0,0,0,0,ss,sh,0,0⟩] _ (by simpa using HO.out) (by rw[HTK.out];unfold partF;simp[h7,h8s]) rfl),HB⟩
        case measure=>simp[intOf];omega
  · obtain rfl:n=k:=by omega
    have hall:S.parts.take n=S.parts:=List.take_of_length_le (by have:=HN.out;omega);rw[hall] at HO HM;clear hall hlt;obtain⟨pf,hpf⟩:∃l,l=partsF 0 S.parts:=⟨_,rfl⟩
    rw[←hpf] at HO HM HSF;have HO0:=HO;have HB0':=HB;have HM0:=HM;have hm24':m≤24:=hm24;obtain⟨m0,hm0⟩:∃x,x=m:=⟨_,rfl⟩
    subst hm0;clear HO HB HM hm24 hpf;obtain⟨l0,q0,f0⟩:=HSB.out _ HB0'.out;go_wp2_with fail;clear q0 f0 l0;have hsw:=HB0'.out.size;clear hwr
    go_loopw [3,6,67] (fun u la cc wr=>∃k:Nat,k≤na∧cc=.int .i64 (k:Int)∧la=.int .i64 (lastQ (S.acts.take k))∧Hid (wr.ownsRow w.heap.size 42 14 u (pf ++(S.acts.take k).flatMap actF).length (factsL (pf ++(S.acts.take k).flatMap actF)))∧Hid (Below w.heap.size w wr)) (fun _ _ cc _=>na - (intOf cc).toNat)
    case atStart=>exact⟨0,by omega,by first | rfl | go_num,by first | rfl | go_num,qq (by simpa using(HM0.out▸HO0.out)),HB0'⟩
    case round=>
     obtain⟨k,hk,rfl,rfl,HO,HB⟩:=hrel;obtain⟨ua,uc,hu⟩:=row_slice HO.out;subst hu;have hk0:(0:Int)≤(k:Int):=by omega
     have HPL0:Hid ((pf ++(S.acts.take k).flatMap actF).length≤136):=qq (by have h1:=flatF_len (S.acts.take k) (fun a ha=>HLN.out a (List.mem_of_mem_take ha));have h2:=HM0.out;rw[List.length_take] at h1;rw[List.length_append];omega);obtain⟨m,hm⟩:∃m,m=(pf ++(S.acts.take k).flatMap actF).length:=⟨_,rfl⟩
     have HM:=qq hm;have hm112:m≤136:=by rw[hm];exact HPL0.out
     rw[←hm] at HO⊢;clear hm HPL0;have hwr:=HB.out.size;obtain⟨lq,hlq⟩:∃q,q=lastQ (S.acts.take k):=⟨_,rfl⟩
     have HLQ:=qq hlq;rw[←hlq];clear hlq;by_cases hlt:k<na
     · have hk1:(k:Int)<(na:Int):=by omega
       have hks:k<S.acts.length:=by rw[←HNA.out];exact hlt
       obtain⟨g,rfl,hg,_,hpt⟩:=HAR.out (by omega);obtain⟨xv,hx⟩:∃x,R.rv[k]? =some x:=⟨_,List.getElem?_eq_getElem (by rw[HRGL.out];exact hks)⟩
       obtain⟨a,ha⟩:∃a,S.acts[k]? =some a:=⟨_,List.getElem?_eq_getElem hks⟩
       obtain⟨rga,rgc,hrv,-,hrr⟩:=HREG.out k xv a hx ha;have hac:=(hpt k a xv ha hx).below HB.out hg;have hgw:g<wr.heap.size:=by omega
       have HTK:=qq (flatF_take ha);have HLT:=qq (lastQ_take ha);have hl6:=HLN.out a (List.mem_of_getElem? ha);obtain⟨an,aq,oc,dp,ex,pa,de,rs⟩:=a;unfold ActC at hac;dsimp only at hrv hrr hl6 hac HTK HLT;obtain⟨c0,c1,c2,c3,c4,c5,c6,c7⟩:=hac;obtain⟨nr,hnr⟩:∃r,r=rs.length:=⟨_,rfl⟩
       have HNR:=qq hnr;rw[←hnr] at hrv hrr hl6;subst hrv;have HRR:=qq hrr;obtain⟨pl,hpl⟩:∃l,l=pf ++(S.acts.take k).flatMap actF:=⟨_,rfl⟩
       have HPL:Hid (pl.length=m):=qq (by rw[hpl];exact HM.out.symm);have HTK2:Hid (pf ++(S.acts.take (k+1)).flatMap actF=pl ++actF ⟨an,aq,oc,dp,ex,pa,de,rs⟩):=qq (by rw[HTK.out,hpl,List.append_assoc]);rw[←hpl] at HO
       have hb1:=(Below.refl wr.heap.size wr).alloc (Nat.le_refl _) (.cells #[an,aq,oc,dp,.float .f64 ex,pa,de,.slice rga nr rgc] 116) |>.alloc (by simp) (.cells #[an,aq,oc,dp,.float .f64 ex] 48)
       have HC1:Hid (FRow2 w.heap.size (wr.heap.size+1) #[.int .i64 an,.int .i64 aq,.int .i64 oc,.int .i64 dp,.float .f64 ex] wr.heap.size #[.int .i64 an,.int .i64 aq,.int .i64 oc,.int .i64 dp,.float .f64 ex,.int .i64 pa,.int .i64 de,.slice rga nr rgc] (.slice ua m uc) pl w ((wr.alloc (.cells #[an,aq,oc,dp,.float .f64 ex,pa,de,.slice rga nr rgc] 116)).alloc (.cells #[an,aq,oc,dp,.float .f64 ex] 48))):=qq ⟨row_be (by rw[HPL.out];exact HO.out) hb1,Blk.fresh _ _ _ _ (by simp),fun e=>by have:=(HO.out.lt _ e).2;omega,(Blk.fresh wr _ _ _ rfl).alloc _,fun e=>by have:=(HO.out.lt _ e).2;omega,below_then HB.out hb1⟩
       have HM2:Hid (m=pl.length):=qq HPL.out.symm;clear hx ha hpt hrr hnr hpl hb1 hlt;obtain⟨lc,qc,fc⟩:=HC1.out.blk;obtain⟨lc2,qc2,fc2⟩:=HC1.out.blk2
       have hal:=(Below.refl ((wr.alloc (.cells #[an,aq,oc,dp,.float .f64 ex,pa,de,.slice rga nr rgc] 116)).alloc (.cells #[an,aq,oc,dp,.float .f64 ex] 48)).heap.size ((wr.alloc (.cells #[an,aq,oc,dp,.float .f64 ex,pa,de,.slice rga nr rgc] 116)).alloc (.cells #[an,aq,oc,dp,.float .f64 ex] 48))).alloc (Nat.le_refl _) (.cells #[.int .i64 1,an,aq,.int .i64 0,.int .i64 0,.int .i64 0,.int .i64 0,oc,dp,pa,.int .i64 0,.int .i64 0,.int .i64 0,.float .f64 ex] 42)
       have HCA:=qq (HC1.out.below hal)
       have hrow:(((wr.alloc (.cells #[an,aq,oc,dp,.float .f64 ex,pa,de,.slice rga nr rgc] 116)).alloc (.cells #[an,aq,oc,dp,.float .f64 ex] 48)).alloc (.cells #[.int .i64 1,an,aq,.int .i64 0,.int .i64 0,.int .i64 0,.int .i64 0,oc,dp,pa,.int .i64 0,.int .i64 0,.int .i64 0,.float .f64 ex] 42)).ownsRow w.heap.size 42 14 (.slice ua m uc) m (factsL (pl)):=by have:=HCA.out.row;rw[←HM2.out] at this;exact this
       clear hal
       go_wp2_with (at_builtin;refine wpList_append_own_at _ rfl _ _ 76 rfl w.heap.size 42 i0 (.agg #[.int .i64 0,.int .i64 0,.int .i64 0,.int .i64 0,.int .i64 0,.int .i64 0,.int .i64 0,.int .i64 0,.int .i64 0,.int .i64 0,.int .i64 0,.int .i64 0,.int .i64 0,.float .f64 0]) 14 112 Tryz.underlying76 ei ez es eb rfl (by decide) _ _ _ rfl hrow ⟨wr.heap.size+1+1,0,none⟩ 1 1 (factL ⟨1,an,aq,0,0,0,0,oc,dp,pa,0,0,0,ex⟩) (by rfl) rfl (lit_cells (Blk.fresh _ _ _ _ (by simp))) (factL_one ⟨1,an,aq,0,0,0,0,oc,dp,pa,0,0,0,ex⟩) ?d3_x7 ?d4_x7 ?d5_x7 ?_)
       case d3_x7=>unfold maxLen;omega
       case d4_x7=>omega
       case d5_x7=>exact HCA.out.be.size
       intro v2 w7 hown hgrow _ hat;obtain⟨ua2,uc2,hu2⟩:=row_slice hown;subst hu2;have HCN:=qq (HCA.out.snoc (f:=⟨1,an,aq,0,0,0,0,oc,dp,pa,0,0,0,ex⟩) (Nat.le_refl _) (by rw[←HM2.out];exact hown) hgrow (by(try rw[World.size_alloc]);(try rw[World.size_alloc]);(try rw[World.size_alloc]);exact hat));clear hown hgrow hat hrow HCA lc qc fc lc2 qc2 fc2 c0 c1 c2 c3 c4 c5 c6 c7
       obtain⟨ab,hab⟩:∃b,b=wr.heap.size:=⟨_,rfl⟩
       simp only[←hab] at*;obtain⟨w11,hw11⟩:∃x,x=w7:=⟨_,rfl⟩
       subst hw11;clear HC1 HM2;have qx:=HCN.out.blk2.cell;have hzr:=HCN.out.be.size;have hxw:=HCN.out.blk2.lt;go_wp2_with fail;clear qx
       go_loopw [3,93] (fun u cc wr=>∃j:Nat,j≤nr∧cc=.int .i64 (j:Int)∧Hid (FRow2 w.heap.size (ab+1) #[.int .i64 an,.int .i64 aq,.int .i64 oc,.int .i64 dp,.float .f64 ex] ab #[.int .i64 an,.int .i64 aq,.int .i64 oc,.int .i64 dp,.float .f64 ex,.int .i64 pa,.int .i64 de,.slice rga nr rgc] u (pl ++([⟨1,an,aq,0,0,0,0,oc,dp,pa,0,0,0,ex⟩]:List SFact) ++enrF ⟨an,aq,oc,dp,ex,pa,de,rs⟩ 0 (rs.take j)) w wr)) (fun _ cc _=>nr - (intOf cc).toNat)
       case atStart=>exact⟨0,by omega,by first | rfl | go_num,qq (by have:=HCN.out;simpa[enrF,seatF] using this)⟩
       case round=>
        obtain⟨j,hj,rfl,HC⟩:=hrel;obtain⟨ua,uc,hu⟩:=row_slice HC.out.row;have hj0:(0:Int)≤(j:Int):=by omega
        obtain⟨ls,hls⟩:∃l:List SFact,l=pl ++([⟨1,an,aq,0,0,0,0,oc,dp,pa,0,0,0,ex⟩]:List SFact) ++enrF ⟨an,aq,oc,dp,ex,pa,de,rs⟩ 0 (rs.take j):=⟨_,rfl⟩
        obtain⟨m2,hm2⟩:∃m,m=ls.length:=⟨_,rfl⟩
        rw[←hls] at HC hu;have hm3:m2≤160:=by
         rw[hm2,hls];have e1:=HPL.out;have e2:=enrF_len ⟨an,aq,oc,dp,ex,pa,de,rs⟩ rs 0;have e2':=enrF_len ⟨an,aq,oc,dp,ex,pa,de,rs⟩ (rs.take j) 0;have e3:=seatF_len ⟨an,aq,oc,dp,ex,pa,de,rs⟩ (rs.take j) 0;have e5:=HNR.out;have e4:(rs.take j).length≤6:=by rw[List.length_take];omega
         simp only[List.length_append,List.length_cons,List.length_nil];omega
        have HM2:=qq hm2;have HLS:=qq hls;rw[←hm2] at hu;subst hu;clear hm2 hls;have hwr2:=HC.out.be.size;by_cases hlt:j<nr
        · have hj1:(j:Int)<(nr:Int):=by omega
          obtain⟨gr,rfl,hgr,_,hrc⟩:=HRR.out (by omega);obtain⟨r,hr⟩:∃r,rs[j]? =some r:=⟨_,List.getElem?_eq_getElem (by have:=HNR.out;omega)⟩
          obtain⟨r0,r1,r2,r3,r4,r5⟩:=(hrc j r hr).below HC.out.be hgr;have hgw2:gr<wr.heap.size:=by omega
          have HT2:=qq (enrF_take (a:=⟨an,aq,oc,dp,ex,pa,de,rs⟩) hr);obtain⟨rn,rp,⟨sp,sd,ss,sh⟩⟩:=r;dsimp only at r0 r1 r2 r3 r4 r5 HT2;have hb1:=(Below.refl wr.heap.size wr).alloc (Nat.le_refl _) (.cells #[rn,rp,sp,sd,ss,sh] 199);have HC1:=qq (HC.out.below hb1);obtain⟨lc,qc,fc⟩:=HC1.out.blk;clear hr hrc hb1
          have hal:=(Below.refl (wr.alloc (.cells #[rn,rp,sp,sd,ss,sh] 199)).heap.size (wr.alloc (.cells #[rn,rp,sp,sd,ss,sh] 199))).alloc (Nat.le_refl _) (.cells #[.int .i64 2,an,aq,.int .i64 ((j:Int)),rn,rp,sp,.int .i64 0,.int .i64 0,.int .i64 0,.int .i64 0,.int .i64 0,.int .i64 0,.float .f64 0] 42);have HCA:=qq (HC1.out.below hal)
          have hrow:((wr.alloc (.cells #[rn,rp,sp,sd,ss,sh] 199)).alloc (.cells #[.int .i64 2,an,aq,.int .i64 ((j:Int)),rn,rp,sp,.int .i64 0,.int .i64 0,.int .i64 0,.int .i64 0,.int .i64 0,.int .i64 0,.float .f64 0] 42)).ownsRow w.heap.size 42 14 (.slice ua m2 uc) m2 (factsL (ls)):=by have:=HCA.out.row;rw[←HM2.out] at this;exact this
          clear hal
          go_wp2_with (at_builtin;refine wpList_append_own_at _ rfl _ _ 76 rfl w.heap.size 42 i0 (.agg #[.int .i64 0,.int .i64 0,.int .i64 0,.int .i64 0,.int .i64 0,.int .i64 0,.int .i64 0,.int .i64 0,.int .i64 0,.int .i64 0,.int .i64 0,.int .i64 0,.int .i64 0,.float .f64 0]) 14 112 Tryz.underlying76 ei ez es eb rfl (by decide) _ _ _ rfl hrow ⟨wr.heap.size+1,0,none⟩ 1 1 (factL ⟨2,an,aq,(j:Int),rn,rp,sp,0,0,0,0,0,0,0⟩) (by rfl) rfl (lit_cells (Blk.fresh _ _ _ _ (by simp))) (factL_one ⟨2,an,aq,(j:Int),rn,rp,sp,0,0,0,0,0,0,0⟩) ?d3_9 ?d4_9 ?d5_9 ?_)
          case d3_9=>unfold maxLen;omega
          case d4_9=>omega
          case d5_9=>exact HCA.out.be.size
          intro v2 w7 hown hgrow _ hat;obtain⟨ua2,uc2,hu2⟩:=row_slice hown;subst hu2;have HC2:=qq (HCA.out.snoc (f:=⟨2,an,aq,(j:Int),rn,rp,sp,0,0,0,0,0,0,0⟩) (Nat.le_refl _) (by rw[←HM2.out];exact hown) hgrow (by rw[World.size_alloc,World.size_alloc];exact hat));clear hown hgrow hat hrow HCA qc lc fc;go_wp2_with fail;go_roundw
          case rel=>exact⟨j+1,by omega,by go_num,qq (by rw[HT2.out,←List.append_assoc,←HLS.out];exact HC2.out)⟩
          case measure=>simp[intOf];omega
        · obtain rfl:nr=j:=by omega
          have hall:rs.take nr=rs:=List.take_of_length_le (by have:=HNR.out;omega);rw[HLS.out,hall] at HC HM2;clear hall hlt HLS;have HCN:=HC;obtain⟨w11,hw11⟩:∃x,x=wr:=⟨_,rfl⟩
          subst hw11;clear HC;have qx:=HCN.out.blk2.cell;have hzr:=HCN.out.be.size;have hxw:=HCN.out.blk2.lt;go_wp2_with fail;clear qx
          go_loopw [3,116] (fun u cc wr=>∃j:Nat,j≤nr∧cc=.int .i64 (j:Int)∧Hid (FRow2 w.heap.size (ab+1) #[.int .i64 an,.int .i64 aq,.int .i64 oc,.int .i64 dp,.float .f64 ex] ab #[.int .i64 an,.int .i64 aq,.int .i64 oc,.int .i64 dp,.float .f64 ex,.int .i64 pa,.int .i64 de,.slice rga nr rgc] u ((pl ++([⟨1,an,aq,0,0,0,0,oc,dp,pa,0,0,0,ex⟩]:List SFact) ++enrF ⟨an,aq,oc,dp,ex,pa,de,rs⟩ 0 rs) ++seatF ⟨an,aq,oc,dp,ex,pa,de,rs⟩ 0 (rs.take j)) w wr)) (fun _ cc _=>nr - (intOf cc).toNat)
          case atStart=>exact⟨0,by omega,by first | rfl | go_num,qq (by have:=HCN.out;simpa[enrF,seatF] using this)⟩
          case round=>
           obtain⟨j,hj,rfl,HC⟩:=hrel;obtain⟨ua,uc,hu⟩:=row_slice HC.out.row;have hj0:(0:Int)≤(j:Int):=by omega
           obtain⟨ls,hls⟩:∃l:List SFact,l=(pl ++([⟨1,an,aq,0,0,0,0,oc,dp,pa,0,0,0,ex⟩]:List SFact) ++enrF ⟨an,aq,oc,dp,ex,pa,de,rs⟩ 0 rs) ++seatF ⟨an,aq,oc,dp,ex,pa,de,rs⟩ 0 (rs.take j):=⟨_,rfl⟩
           obtain⟨m2,hm2⟩:∃m,m=ls.length:=⟨_,rfl⟩
           rw[←hls] at HC hu;have hm3:m2≤160:=by
            rw[hm2,hls];have e1:=HPL.out;have e2:=enrF_len ⟨an,aq,oc,dp,ex,pa,de,rs⟩ rs 0;have e2':=enrF_len ⟨an,aq,oc,dp,ex,pa,de,rs⟩ (rs.take j) 0;have e3:=seatF_len ⟨an,aq,oc,dp,ex,pa,de,rs⟩ (rs.take j) 0;have e5:=HNR.out;have e4:(rs.take j).length≤6:=by rw[List.length_take];omega
            simp only[List.length_append,List.length_cons,List.length_nil];omega
           have HM2:=qq hm2;have HLS:=qq hls;rw[←hm2] at hu;subst hu;clear hm2 hls;have hwr2:=HC.out.be.size;by_cases hlt:j<nr
           · have hj1:(j:Int)<(nr:Int):=by omega
             obtain⟨gr,rfl,hgr,_,hrc⟩:=HRR.out (by omega);obtain⟨r,hr⟩:∃r,rs[j]? =some r:=⟨_,List.getElem?_eq_getElem (by have:=HNR.out;omega)⟩
             obtain⟨r0,r1,r2,r3,r4,r5⟩:=(hrc j r hr).below HC.out.be hgr;have hgw2:gr<wr.heap.size:=by omega
             have HT2:=qq (seatF_take (a:=⟨an,aq,oc,dp,ex,pa,de,rs⟩) hr);obtain⟨rn,rp,⟨sp,sd,ss,sh⟩⟩:=r;dsimp only at r0 r1 r2 r3 r4 r5 HT2;have hb1:=(Below.refl wr.heap.size wr).alloc (Nat.le_refl _) (.cells #[rn,rp,sp,sd,ss,sh] 199);have HC1:=qq (HC.out.below hb1);obtain⟨lc,qc,fc⟩:=HC1.out.blk;clear hr hrc hb1
             have kR:Blk (wr.alloc (.cells #[rn,rp,sp,sd,ss,sh] 199)) wr.heap.size #[.int .i64 rn,.int .i64 rp,.int .i64 sp,.int .i64 sd,.int .i64 ss,.int .i64 sh]:=Blk.fresh _ _ _ _ rfl;by_cases h1s:ss=1
             · have hs1:(ss !=1)=false:=by simpa using h1s
               rw[if_pos h1s,List.append_nil] at HT2;clear h1s;go_wp2_with fail;go_roundw
               case rel=>exact⟨j+1,by omega,by go_num,qq (by rw[HT2.out,←HLS.out];exact HC1.out)⟩
               case measure=>simp[intOf];omega
             · have hs1:(ss !=1)=true:=by simpa using h1s
               rw[if_neg h1s] at HT2;clear h1s;have hal:=(Below.refl (wr.alloc (.cells #[rn,rp,sp,sd,ss,sh] 199)).heap.size (wr.alloc (.cells #[rn,rp,sp,sd,ss,sh] 199))).alloc (Nat.le_refl _) (.cells #[.int .i64 3,an,aq,.int .i64 ((j:Int)),.int .i64 0,.int .i64 0,.int .i64 0,.int .i64 0,.int .i64 0,.int .i64 0,ss,sh,.int .i64 0,.float .f64 0] 42);have HCA:=qq (HC1.out.below hal)
               have hrow:((wr.alloc (.cells #[rn,rp,sp,sd,ss,sh] 199)).alloc (.cells #[.int .i64 3,an,aq,.int .i64 ((j:Int)),.int .i64 0,.int .i64 0,.int .i64 0,.int .i64 0,.int .i64 0,.int .i64 0,ss,sh,.int .i64 0,.float .f64 0] 42)).ownsRow w.heap.size 42 14 (.slice ua m2 uc) m2 (factsL (ls)):=by have:=HCA.out.row;rw[←HM2.out] at this;exact this
               clear hal
               go_wp2_with (at_builtin;refine wpList_append_own_at _ rfl _ _ 76 rfl w.heap.size 42 i0 (.agg #[.int .i64 0,.int .i64 0,.int .i64 0,.int .i64 0,.int .i64 0,.int .i64 0,.int .i64 0,.int .i64 0,.int .i64 0,.int .i64 0,.int .i64 0,.int .i64 0,.int .i64 0,.float .f64 0]) 14 112 Tryz.underlying76 ei ez es eb rfl (by decide) _ _ _ rfl hrow ⟨wr.heap.size+1,0,none⟩ 1 1 (factL ⟨3,an,aq,(j:Int),0,0,0,0,0,0,ss,sh,0,0⟩) (by rfl) rfl (lit_cells (Blk.fresh _ _ _ _ (by simp))) (factL_one ⟨3,an,aq,(j:Int),0,0,0,0,0,0,ss,sh,0,0⟩) ?d3_11 ?d4_11 ?d5_11 ?_)
               case d3_11=>unfold maxLen;omega
               case d4_11=>omega
               case d5_11=>exact HCA.out.be.size
               intro v2 w7 hown hgrow _ hat;obtain⟨ua2,uc2,hu2⟩:=row_slice hown;subst hu2;have HC2:=qq (HCA.out.snoc (f:=⟨3,an,aq,(j:Int),0,0,0,0,0,0,ss,sh,0,0⟩) (Nat.le_refl _) (by rw[←HM2.out];exact hown) hgrow (by rw[World.size_alloc,World.size_alloc];exact hat));clear hown hgrow hat hrow HCA qc lc fc;go_wp2_with fail;go_roundw
               case rel=>exact⟨j+1,by omega,by go_num,qq (by rw[HT2.out,←List.append_assoc,←HLS.out];exact HC2.out)⟩
               case measure=>simp[intOf];omega
           · obtain rfl:nr=j:=by omega
             have hall:rs.take nr=rs:=List.take_of_length_le (by have:=HNR.out;omega);rw[HLS.out,hall] at HC HM2;clear hall hlt HLS;have hal1:actF ⟨an,aq,oc,dp,ex,pa,de,rs⟩=[⟨1,an,aq,0,0,0,0,oc,dp,pa,0,0,0,ex⟩] ++(enrF ⟨an,aq,oc,dp,ex,pa,de,rs⟩ 0 rs ++(seatF ⟨an,aq,oc,dp,ex,pa,de,rs⟩ 0 rs ++(if de=0 then[] else[⟨4,an,aq,0,0,0,0,0,0,0,0,0,de,0⟩]))):=rfl;have HACTF:=qq hal1;clear hal1
             have qx:=HC.out.blk2.cell;have hxw:=HC.out.blk2.lt;have qc:=HC.out.blk.cell;have hcw:=HC.out.blk.lt;by_cases hde:de=0
             · have hd1:(de !=0)=false:=by simpa using hde
               rw[if_pos hde,List.append_nil] at HACTF;have HFIN:Hid (pf ++(List.take (k+1) S.acts).flatMap actF=(pl ++([⟨1,an,aq,0,0,0,0,oc,dp,pa,0,0,0,ex⟩]:List SFact) ++enrF ⟨an,aq,oc,dp,ex,pa,de,rs⟩ 0 rs) ++seatF ⟨an,aq,oc,dp,ex,pa,de,rs⟩ 0 rs):=qq (by rw[HTK2.out,HACTF.out];simp only[List.append_assoc]);clear hde;go_wp2_with fail;go_roundw
               case rel=>exact⟨k+1,by omega,by go_num,by rw[HLT.out],qq (by rw[HFIN.out];exact HC.out.row),qq HC.out.be⟩
               case measure=>simp[intOf];omega
             · have hd1:(de !=0)=true:=by simpa using hde
               rw[if_neg hde] at HACTF;have HFIN:Hid (pf ++(List.take (k+1) S.acts).flatMap actF=((pl ++([⟨1,an,aq,0,0,0,0,oc,dp,pa,0,0,0,ex⟩]:List SFact) ++enrF ⟨an,aq,oc,dp,ex,pa,de,rs⟩ 0 rs) ++seatF ⟨an,aq,oc,dp,ex,pa,de,rs⟩ 0 rs) ++ [⟨4,an,aq,0,0,0,0,0,0,0,0,0,de,0⟩]):=qq (by rw[HTK2.out,HACTF.out];simp only[List.append_assoc]);clear hde
               obtain⟨lz,hlz⟩:∃l:List SFact,l=(pl ++([⟨1,an,aq,0,0,0,0,oc,dp,pa,0,0,0,ex⟩]:List SFact) ++enrF ⟨an,aq,oc,dp,ex,pa,de,rs⟩ 0 rs) ++seatF ⟨an,aq,oc,dp,ex,pa,de,rs⟩ 0 rs:=⟨_,rfl⟩
               have HLZ:=qq hlz;rw[←hlz] at HC HM2;clear hlz;have HC1:=HC;have hal:=(Below.refl (wr).heap.size (wr)).alloc (Nat.le_refl _) (.cells #[.int .i64 4,an,aq,.int .i64 0,.int .i64 0,.int .i64 0,.int .i64 0,.int .i64 0,.int .i64 0,.int .i64 0,.int .i64 0,.int .i64 0,de,.float .f64 0] 42);have HCA:=qq (HC1.out.below hal)
               have hrow:((wr).alloc (.cells #[.int .i64 4,an,aq,.int .i64 0,.int .i64 0,.int .i64 0,.int .i64 0,.int .i64 0,.int .i64 0,.int .i64 0,.int .i64 0,.int .i64 0,de,.float .f64 0] 42)).ownsRow w.heap.size 42 14 (.slice ua m2 uc) m2 (factsL (lz)):=by have:=HCA.out.row;rw[←HM2.out] at this;exact this
               clear hal
               go_wp2_with (at_builtin;refine wpList_append_own_at _ rfl _ _ 76 rfl w.heap.size 42 i0 (.agg #[.int .i64 0,.int .i64 0,.int .i64 0,.int .i64 0,.int .i64 0,.int .i64 0,.int .i64 0,.int .i64 0,.int .i64 0,.int .i64 0,.int .i64 0,.int .i64 0,.int .i64 0,.float .f64 0]) 14 112 Tryz.underlying76 ei ez es eb rfl (by decide) _ _ _ rfl hrow ⟨wr.heap.size,0,none⟩ 1 1 (factL ⟨4,an,aq,0,0,0,0,0,0,0,0,0,de,0⟩) (by rfl) rfl (lit_cells (Blk.fresh _ _ _ _ (by simp))) (factL_one ⟨4,an,aq,0,0,0,0,0,0,0,0,0,de,0⟩) ?d3_x12 ?d4_x12 ?d5_x12 ?_)
               case d3_x12=>unfold maxLen;omega
               case d4_x12=>omega
               case d5_x12=>exact HCA.out.be.size
               intro v2 w7 hown hgrow _ hat;obtain⟨ua2,uc2,hu2⟩:=row_slice hown;subst hu2;have HCN:=qq (HCA.out.snoc (f:=⟨4,an,aq,0,0,0,0,0,0,0,0,0,de,0⟩) (Nat.le_refl _) (by rw[←HM2.out];exact hown) hgrow (by(try rw[World.size_alloc]);(try rw[World.size_alloc]);(try rw[World.size_alloc]);exact hat));clear hown hgrow hat hrow HCA qx qc;go_wp2_with fail;go_roundw
               case rel=>exact⟨k+1,by omega,by go_num,by rw[HLT.out],qq (by rw[HFIN.out,←HLZ.out];exact HCN.out.row),qq HCN.out.be⟩
               case measure=>simp[intOf];omega
     · obtain rfl:na=k:=by omega
       have hall:S.acts.take na=S.acts:=List.take_of_length_le (by have:=HNA.out;omega);rw[hall] at HO HM HLQ;clear hall hlt;obtain⟨l0,q0,f0⟩:=HSB.out _ HB.out;by_cases hq:lq=S.next - 1
       · have HFIN:Hid (sfacts S=pf ++S.acts.flatMap actF):=qq (by rw[HSF.out,HLST.out,if_pos (by rw[←HLQ.out];exact hq),List.append_nil]);have hqb:(lq !=S.next - 1)=false:=by simpa using hq
         clear hq;go_wp2_with fail;go_ret;exact⟨_,_,by rw[HFIN.out,←HM.out];rfl,by rw[HFIN.out,←HM.out];exact HO.out,HB.out⟩
       · have HFIN:Hid (sfacts S=(pf ++S.acts.flatMap actF) ++ [⟨1,S.node,S.next - 1,0,0,0,0,1,0,0,0,0,0,0⟩,⟨5,S.node,S.next - 1,0,0,0,0,0,0,0,0,0,0,0⟩]):=qq (by rw[HSF.out,HLST.out,if_neg (by rw[←HLQ.out];exact hq),List.append_assoc]);have hqb:(lq !=S.next - 1)=true:=by simpa using hq
         clear hq;go_wp2_with fail;go_region;have hb4:Below wr.heap.size wr (wr.alloc (.cells #[S.node,.int .i64 (S.next - 1)] 36)).drew:=bel_drew ((Below.refl _ _).alloc (Nat.le_refl _) _);have HO4:=qq (row_be HO.out hb4);have HB4:=qq (below_then HB.out hb4)
         have KA:=qq (show Blk (wr.alloc (.cells #[S.node,.int .i64 (S.next - 1)] 36)).drew wr.heap.size #[.int .i64 S.node,.int .i64 (S.next - 1)] from(Blk.fresh wr _ _ _ rfl).drew);clear q0 f0 l0 hb4;obtain⟨w4,hw4⟩:∃x,x=(wr.alloc (.cells #[S.node,.int .i64 (S.next - 1)] 36)).drew:=⟨_,rfl⟩
         rw[←hw4] at HO4 HB4 KA⊢;obtain⟨lk,qk,fk⟩:=KA.out
         have hal:=(Below.refl w4.heap.size w4).alloc (Nat.le_refl _) (.cells #[.int .i64 1,S.node,.int .i64 (S.next - 1),.int .i64 0,.int .i64 0,.int .i64 0,.int .i64 0,.int .i64 1,.int .i64 0,.int .i64 0,.int .i64 0,.int .i64 0,.int .i64 0,.float .f64 0,.int .i64 5,S.node,.int .i64 (S.next - 1),.int .i64 0,.int .i64 0,.int .i64 0,.int .i64 0,.int .i64 0,.int .i64 0,.int .i64 0,.int .i64 0,.int .i64 0,.int .i64 0,.float .f64 0] 42)
         have hrow:=row_be HO4.out hal;have HBA:=qq (below_then HB4.out hal);clear hal hw4
         go_wp2_with (at_builtin;refine wpList_append_own_at _ rfl _ _ 76 rfl w.heap.size 42 i0 (.agg #[.int .i64 0,.int .i64 0,.int .i64 0,.int .i64 0,.int .i64 0,.int .i64 0,.int .i64 0,.int .i64 0,.int .i64 0,.int .i64 0,.int .i64 0,.int .i64 0,.int .i64 0,.float .f64 0]) 14 112 Tryz.underlying76 ei ez es eb rfl (by decide) _ _ _ rfl hrow ⟨w4.heap.size,0,none⟩ 2 2 (factsL [⟨1,S.node,S.next - 1,0,0,0,0,1,0,0,0,0,0,0⟩,⟨5,S.node,S.next - 1,0,0,0,0,0,0,0,0,0,0,0⟩]) (by rfl) rfl (lit_cells (Blk.fresh _ _ _ _ rfl)) (factsL_one [⟨1,S.node,S.next - 1,0,0,0,0,1,0,0,0,0,0,0⟩,⟨5,S.node,S.next - 1,0,0,0,0,0,0,0,0,0,0,0⟩]) ?d3 ?d4 ?d5 ?_)
         case d3=>unfold maxLen;omega
         case d4=>omega
         case d5=>exact HBA.out.size
         intro v6 w6 hown hgrow _ _;obtain⟨ua2,uc2,hu2⟩:=row_slice hown;subst hu2;have HO6:=qq (show w6.ownsRow w.heap.size 42 14 (.slice ua2 (m+2) uc2) (m+2) (factsL ((pf ++S.acts.flatMap actF) ++ [⟨1,S.node,S.next - 1,0,0,0,0,1,0,0,0,0,0,0⟩,⟨5,S.node,S.next - 1,0,0,0,0,0,0,0,0,0,0,0⟩])) from by rw[factsL_append];exact hown)
         have HB6:=qq (HBA.out.grown hgrow HBA.out.size (fun j hj=>(HO4.out.lt j hj).1));clear hown hgrow hrow lk qk fk;go_wp2_with fail;go_ret;have hlen:(sfacts S).length=m+2:=by rw[HFIN.out,List.length_append,←HM.out];rfl
         exact⟨_,_,by rw[hlen];rfl,by rw[hlen,HFIN.out];exact HO6.out,HB6.out⟩
end Go.Proofs.YtlkajejbfojkeaaGreatDoor
