/- LdB, LoA, RstB, LoD -/
import Derived.Test.YtlkajejbfojkeaaGreatDoorKTabPlainToTrcP
import Derived.Laws.FloatArith
import Derived.Test.YtlkajejbfojkeaaGreatDoorGFcGToActs
import Derived.Lib.SmallJoins
set_option linter.unusedSimpArgs false
set_option linter.unusedVariables false
set_option maxRecDepth 100000
set_option maxHeartbeats 16000000
namespace Go.Proofs.YtlkajejbfojkeaaGreatDoor
open Go.RowKit
attribute [local go_sem] store_float
theorem RegC.grown {w w':World} {b o:Nat} {r:SReg} {row:Option Nat} (h:RegC w b o r) (hg:w.grownBy w' row) (hne:row≠some b):RegC w' b o r:=
 ⟨hg.cell h.1 (fun e=>hne e.symm),hg.cell h.2.1 (fun e=>hne e.symm),hg.cell h.2.2.1 (fun e=>hne e.symm),hg.cell h.2.2.2.1 (fun e=>hne e.symm),hg.cell h.2.2.2.2.1 (fun e=>hne e.symm),hg.cell h.2.2.2.2.2 (fun e=>hne e.symm)⟩
theorem schild_some {S:Sto} {pa:Int} {i:Nat} (h:schild S pa=some i):∃a,S.acts[i]? =some a∧a∈S.acts:=by
 unfold schild at h;obtain⟨h1,_⟩:=List.findIdx?_eq_some_iff_getElem.1 h;exact⟨S.acts[i],List.getElem?_eq_getElem h1,List.getElem_mem h1⟩
def ChildOut (b:Bool) (w:World) (e:Ending) (w':World):Prop:=∃(an aq oc dp:Int) (ex:Nat) (pa de:Int) (va:Option Addr) (vn vc:Nat),e=.returned (.tuple #[.agg #[an,aq,oc,dp,.float .f64 ex,pa,de,.slice va vn vc],.bool b])∧Below w.heap.size w w'
theorem Child_out (L:SLoc) (S:Sto) (pt:Int) (w:World) (h:StoreAt L S w) (hG:StoGood S) (hp:¬(0≤pt∧pt<(S.parts.length:Int))):Calls Tryz.prog 27 #[.pointer (some ⟨L.sb,0,none⟩),.int .i64 pt] w (ChildOut false w):=by
 have H:=qq h;have HH:=qq (fun W hW=>has_of L S pt W hW);rw[decide_eq_false hp] at HH;clear h hG hp;go_enter Tryz.func27,Tryz.ntmps27;go_wp2_with fail;refine(HH.out _ (H.out.below (bel_alloc (Below.refl w.heap.size w) _))).mono ?_;rintro e w1 ⟨rfl,rfl⟩;go_wp2_with fail
 refine bodyPost_ret (v:=.tuple #[.agg #[.int .i64 0,.int .i64 0,.int .i64 0,.int .i64 0,.float .f64 0,.int .i64 0,.int .i64 0,.slice none 0 0],.bool false]) (by simp[results,Tryz.results27,go_sem]) rfl ?_;exact⟨0,0,0,0,0,0,0,none,0,0,rfl,(bel_alloc (Below.refl w.heap.size w) _)⟩
theorem Child_no (L:SLoc) (S:Sto) (pt:Int) (w:World) (h:StoreAt L S w) (hG:StoGood S) (hp:0≤pt∧pt<(S.parts.length:Int)) (hc:schild S (pt+1)=none):Calls Tryz.prog 27 #[.pointer (some ⟨L.sb,0,none⟩),.int .i64 pt] w (ChildOut false w):=by
 have H:=qq h;have HH:=qq (fun W hW=>has_of L S pt W hW);rw[decide_eq_true hp] at HH;have HC:=qq (fun W hW=>child_of L S (pt+1) W hW hG);rw[if_neg (by omega)] at HC;rw[hc] at HC;dsimp only[aptr,Option.bind] at HC;have h8:=hG.parts;have HGN:=qq (fun W=>got_no W);dsimp only[act0V] at HGN;clear h hG hc;go_enter Tryz.func27,Tryz.ntmps27;go_wp2_with fail
 refine(HH.out _ (H.out.below (bel_alloc (Below.refl w.heap.size w) _))).mono ?_;rintro e w1 ⟨rfl,rfl⟩;go_wp2_with fail;refine(HC.out _ (H.out.below (bel_alloc (Below.refl w.heap.size w) _))).mono ?_;rintro e w2 ⟨rfl,hb2⟩;have K1:=qq ((Blk.fresh _ _ _ (w.heap.size) (by simp)).below hb2);have HB:=qq (below_then (bel_alloc (Below.refl w.heap.size w) _) hb2);have z2:=HB.out.size;clear hb2
 obtain⟨lK1,qK1,fK1⟩:=K1.out;go_wp2_with fail;clear qK1 fK1 lK1;refine(HGN.out _).mono ?_;rintro e w3 ⟨rfl,hb3⟩;have K1:=qq (K1.out.below hb3);have HB:=qq (below_then HB.out hb3);have z3:=HB.out.size;clear hb3;obtain⟨lK1,qK1,fK1⟩:=K1.out;go_wp2_with fail
 have hV0:=(sst (sst (sst (sst (sst (sst (sst (sst K1.out 0 (.int .i64 0)) 1 (.int .i64 0)) 2 (.int .i64 0)) 3 (.int .i64 0)) 4 (.float .f64 0)) 5 (.int .i64 0)) 6 (.int .i64 0)) 7 (.slice none 0 0))
 have hVq0:=hV0.cell;have hVf0:=hV0.free;refine bodyPost_ret (v:=.tuple #[.agg #[.int .i64 0,.int .i64 0,.int .i64 0,.int .i64 0,.float .f64 0,.int .i64 0,.int .i64 0,.slice none 0 0],.bool false]) (by simp[results,Tryz.results27,go_sem,hVq0,hVf0]) rfl ?_;clear qK1 fK1 lK1
 exact⟨0,0,0,0,0,0,0,none,0,0,rfl,(bst (bst (bst (bst (bst (bst (bst (bst HB.out w.heap.size 0 _) w.heap.size 1 _) w.heap.size 2 _) w.heap.size 3 _) w.heap.size 4 _) w.heap.size 5 _) w.heap.size 6 _) w.heap.size 7 _)⟩
theorem row_slice3 {w:World} {B:Nat} {e:TypeId} {size:Nat} {v:Value} {n:Nat} {xs:List Value} (h:w.ownsRow B e size v n xs):∃a m c,v=.slice a m c:=by
 obtain⟨a,cap,h⟩:=row_slice h;exact⟨a,n,cap,h⟩
theorem rfind_of (R:RLoc) (S:Sto) (n q:Int) (w:World) (h:RStoreAt R S w) (hl:S.acts.length≤8):Calls Tryz.prog 52 #[.pointer (some ⟨R.sb,0,none⟩),.agg #[n,q]] w (Makes (.int .i64 (oix (sfind S n q))) w):=by
 obtain⟨a,cap,hv,hn,hr⟩:=act_row h.len h.acts;have c2:w.cell? ⟨R.sb,2,none⟩=some (.slice a S.acts.length cap):=by rw[←hv];exact h.blk.cell 2
 have hsb:=h.blk.lt;have HR:=qq hr;have HLEN:=qq h.len;have USL:=qq (fun(i:Nat) (v:Value) (hv:R.rv[i]? =some v)=>row_slice3 (h.regs i v _ hv (List.getElem?_eq_getElem (by rw[←h.len];exact(List.getElem?_eq_some_iff.1 hv).1))));have hf:sfind S n q=S.acts.findIdx? (fun a=>decide (a.an=n∧a.aq=q)):=rfl;rw[hf];generalize S.acts=l at*;generalize R.rv=rv at*;obtain⟨m,hm⟩:∃m,m=l.length:=⟨_,rfl⟩
 rw[←hm] at c2 hl HR HLEN;have HM:=qq hm;have HB:=qq (Blk.fresh w #[n,q] 36 _ rfl);clear hm hr hn hv h hf;go_enter Tryz.func52,Tryz.ntmps52;go_wp2_with fail;go_loopw [12] (fun i wr=>∃k:Nat,k≤m∧i=.int .i64 (k:Nat)∧Hid (∀(j:Nat) (h:j<l.length),j<k→decide (l[j].an=n∧l[j].aq=q)=false)∧Hid (Blk wr w.heap.size #[n,q])∧Below w.heap.size w wr) (fun i _=>m - (intOf i).toNat)
 case atStart=>exact⟨0,by omega,by first | rfl | go_num,qq (fun j _ h=>absurd h (by omega)),HB,by go_grown⟩
 case round=>
  obtain⟨k,hk,rfl,HBE,HBr,hB⟩:=hrel;by_cases hlt:k<m
  · have hks:k<l.length:=by rw[←HM.out];exact hlt
    obtain⟨g,rfl,hg,hfz,hcell⟩:=HR.out (by omega);obtain⟨u,hu⟩:∃u,rv[k]? =some u:=⟨_,List.getElem?_eq_getElem (by rw[HLEN.out];exact hlt)⟩
    obtain⟨x,hx⟩:∃x,x=l[k]:=⟨_,rfl⟩
    have hat:=(hcell k x u (by rw[hx];exact List.getElem?_eq_getElem hks) hu).below hB hg;obtain⟨a0,a1,a2,a3,a4,a5,a6,a7⟩:=hat;have hki:(k:Int)<(m:Int):=by omega
    have hk0:(0:Int)≤(k:Int):=by omega
    have hse:=fun W=>actEq x.an x.aq n q W
    obtain⟨t,ht⟩:∃t,t=decide (x.an=n∧x.aq=q):=⟨_,rfl⟩
    rw[←ht] at hse;rw[hx] at ht;have HT:=qq ht;obtain⟨b,bf⟩:=HBr.out.out;have hzr:=HBr.out.lt;have HB2:=qq (HBr.out.alloc (.cells #[x.an,x.aq,x.oc,x.dp,.float .f64 x.ex,x.pa,x.de,u] 116));have hB2:Below w.heap.size w (wr.alloc (.cells #[x.an,x.aq,x.oc,x.dp,.float .f64 x.ex,x.pa,x.de,u] 116)):=hB.alloc hB.size _;obtain⟨ua,un,uc,hus⟩:∃ua un uc,u=.slice ua un uc:=USL.out k u hu;subst hus
    clear ht hcell hfz hx hu;obtain⟨xan,xaq,xoc,xdp,xex,xpa,xde,xrg⟩:=x;dsimp only at a0 a1 a2 a3 a4 a5 a6 a7 hse HB2 hB2
    cases t with
    | true=>
     go_wp2_with fail;go_ret;exact⟨by rw[find_hit (q:=fun a:SAct=>decide (a.an=n∧a.aq=q)) hks HBE.out HT.out.symm];rfl,hB2⟩
    | false=>
     go_wp2_with fail;go_roundw
     case rel => exact ⟨k + 1, by omega, by go_num, qq (fun j h hj => by
         rcases Nat.lt_or_eq_of_le (Nat.le_of_lt_succ hj) with h1 | h1
         · exact HBE.out j h h1
         · subst h1;exact HT.out.symm),HB2,hB2⟩
     case measure=>(simp[intOf];omega)
  · obtain rfl:k=m:=by omega
    go_wp2_with fail;go_ret;exact⟨by rw[find_miss (q:=fun a:SAct=>decide (a.an=n∧a.aq=q)) (fun j h=>HBE.out j h (by rw[HM.out];exact h))];rfl,hB⟩
theorem rchild_of (R:RLoc) (S:Sto) (pt:Int) (w:World) (h:RStoreAt R S w) (hl:S.acts.length≤8) (hp0:0≤pt) (hp1:pt≤100):Calls Tryz.prog 91 #[.pointer (some ⟨R.sb,0,none⟩),.int .i64 pt] w (Makes (.int .i64 (oix (schild S (pt+1)))) w):=by
 obtain⟨a,cap,hv,hn,hr⟩:=act_row h.len h.acts;have c2:w.cell? ⟨R.sb,2,none⟩=some (.slice a S.acts.length cap):=by rw[←hv];exact h.blk.cell 2
 have hsb:=h.blk.lt;have HR:=qq hr;have HLEN:=qq h.len;have USL:=qq (fun(i:Nat) (v:Value) (hv:R.rv[i]? =some v)=>row_slice3 (h.regs i v _ hv (List.getElem?_eq_getElem (by rw[←h.len];exact(List.getElem?_eq_some_iff.1 hv).1))));have hf:schild S (pt+1)=S.acts.findIdx? (fun a=>decide (a.pa=pt+1)):=rfl;rw[hf];generalize S.acts=l at*;generalize R.rv=rv at*;obtain⟨m,hm⟩:∃m,m=l.length:=⟨_,rfl⟩
 rw[←hm] at c2 hl HR HLEN;have HM:=qq hm;clear hm hr hn hv h hf;go_enter Tryz.func91,Tryz.ntmps91;go_wp2_with fail;go_loopw [12] (fun i wr=>∃k:Nat,k≤m∧i=.int .i64 (k:Nat)∧Hid (∀(j:Nat) (h:j<l.length),j<k→decide (l[j].pa=pt+1)=false)∧Below w.heap.size w wr) (fun i _=>m - (intOf i).toNat)
 case atStart=>exact⟨0,by omega,by first | rfl | go_num,qq (fun j _ h=>absurd h (by omega)),by go_grown⟩
 case round=>
  obtain⟨k,hk,rfl,HBE,hB⟩:=hrel;by_cases hlt:k<m
  · have hks:k<l.length:=by rw[←HM.out];exact hlt
    obtain⟨g,rfl,hg,hfz,hcell⟩:=HR.out (by omega);obtain⟨u,hu⟩:∃u,rv[k]? =some u:=⟨_,List.getElem?_eq_getElem (by rw[HLEN.out];exact hlt)⟩
    obtain⟨x,hx⟩:∃x,x=l[k]:=⟨_,rfl⟩
    have hat:=(hcell k x u (by rw[hx];exact List.getElem?_eq_getElem hks) hu).below hB hg;obtain⟨a0,a1,a2,a3,a4,a5,a6,a7⟩:=hat;have hki:(k:Int)<(m:Int):=by omega
    have hk0:(0:Int)≤(k:Int):=by omega
    obtain⟨t,ht⟩:∃t,t=decide (x.pa=pt+1):=⟨_,rfl⟩
    have hse:(x.pa==pt+1)=t:=by rw[ht];by_cases h:x.pa=pt+1<;>simp[h]
    rw[hx] at ht;have HT:=qq ht;have hB2:Below w.heap.size w (wr.alloc (.cells #[x.an,x.aq,x.oc,x.dp,.float .f64 x.ex,x.pa,x.de,u] 116)):=hB.alloc hB.size _;obtain⟨ua,un,uc,hus⟩:∃ua un uc,u=.slice ua un uc:=USL.out k u hu;subst hus;clear ht hcell hfz hx hu;obtain⟨xan,xaq,xoc,xdp,xex,xpa,xde,xrg⟩:=x;dsimp only at a0 a1 a2 a3 a4 a5 a6 a7 hse hB2
    cases t with
    | true=>
     go_wp2_with fail;go_ret;exact⟨by rw[find_hit (q:=fun a:SAct=>decide (a.pa=pt+1)) hks HBE.out HT.out.symm];rfl,hB2⟩
    | false=>
     go_wp2_with fail;go_roundw
     case rel => exact ⟨k + 1, by omega, by go_num, qq (fun j h hj => by
         rcases Nat.lt_or_eq_of_le (Nat.le_of_lt_succ hj) with h1 | h1
         · exact HBE.out j h h1
         · subst h1;exact HT.out.symm),hB2⟩
     case measure=>(simp[intOf];omega)
  · obtain rfl:k=m:=by omega
    go_wp2_with fail;go_ret;exact⟨by rw[find_miss (q:=fun a:SAct=>decide (a.pa=pt+1)) (fun j h=>HBE.out j h (by rw[HM.out];exact h))];rfl,hB⟩
theorem rsame09_self (cn cq co cd:Int) (cx:Nat) (w:World) (hx:F64 cx):Calls Tryz.prog 79 #[.agg #[cn,cq,co,cd,.float .f64 cx],.agg #[cn,cq,co,cd,.float .f64 cx]] w (Makes (.bool true) w):=by
 have HB1:=qq (fun W=>rbits_of cx hx W);obtain⟨p,hp⟩:∃p:Int,p=(fplain cx:Nat):=⟨_,rfl⟩
 rw[←hp] at HB1;clear hx hp;go_enter Tryz.func79,Tryz.ntmps79;go_wp2_with fail;refine reg_start (fun w'=>Blk w' _ _∧Blk w' _ _∧Below w.heap.size w w') (by kernel_rfl) ⟨((Blk.fresh _ _ _ (w.heap.size) (by simp)).alloc _).drew,(Blk.fresh _ _ _ (w.heap.size+1) (by simp)).drew,(bel_drew (bel_alloc (bel_alloc (Below.refl w.heap.size w) _) _))⟩ ?_;rintro w1 hHeld;obtain⟨K1',K2',HB'⟩:=id hHeld
 have K1:=qq K1';have K2:=qq K2';have HB:=qq HB';clear K1' K2' HB';have z1:=HB.out.size;refine takeM (d:=some 5) 0 rfl rfl hHeld (fun w' _=>by go_simp;(try rfl)) ?_;simp only[puts];refine takeM (d:=some 6) 1 rfl rfl hHeld (fun w' _=>by go_simp;(try rfl)) ?_;simp only[puts];refine takeM (d:=some 7) 2 rfl rfl hHeld (fun w' hS'=>by have qA:=hS'.1.cell;clear hS';go_simp;(try rfl)) ?_;simp only[puts]
 refine takeM (d:=some 8) 3 rfl rfl hHeld (fun w' _=>by go_simp;(try rfl)) ?_;simp only[puts];refine takeM (d:=some 9) 4 rfl rfl hHeld (fun w' _=>by go_simp;(try rfl)) ?_;simp only[puts];refine takeM (d:=some 10) 5 rfl rfl hHeld (fun w' hS'=>by have qA:=hS'.2.1.cell;clear hS';go_simp;(try rfl)) ?_;simp only[puts];refine takeM (d:=some 11) 6 rfl rfl hHeld (fun w' _=>by go_simp;(try rfl)) ?_
 simp only[puts];refine takeM (d:=some 12) 7 rfl rfl hHeld (fun w' _=>by go_simp;(try rfl)) ?_;simp only[puts];refine takeM (d:=some 13) 8 rfl rfl hHeld (fun w' _=>by go_simp;(try rfl)) ?_;simp only[puts];refine takeM (d:=some 14) 9 rfl rfl hHeld (fun w' _=>by go_simp;(try rfl)) ?_;simp only[puts]
 refine takeM (d:=some 15) 10 rfl rfl hHeld (fun w' hS'=>by have qA:=hS'.1.cell;clear hS';go_simp;(try rfl)) ?_;simp only[puts];refine takeM (d:=some 16) 11 rfl rfl hHeld (fun w' _=>by go_simp;(try rfl)) ?_;simp only[puts];refine takeM (d:=some 17) 12 rfl rfl hHeld (fun w' _=>by go_simp;(try rfl)) ?_;simp only[puts]
 refine takeM (d:=some 18) 13 rfl rfl hHeld (fun w' hS'=>by have qA:=hS'.2.1.cell;clear hS';go_simp;(try rfl)) ?_;simp only[puts];refine takeM (d:=some 19) 14 rfl rfl hHeld (fun w' _=>by go_simp;(try rfl)) ?_;simp only[puts];refine takeM (d:=some 20) 15 rfl rfl hHeld (fun w' _=>by go_simp;(try rfl)) ?_;simp only[puts];refine takeM (d:=some 21) 16 rfl rfl hHeld (fun w' _=>by go_simp;(try rfl)) ?_
 simp only[puts];refine takeM (d:=some 22) 17 rfl rfl hHeld (fun w' _=>by go_simp;(try rfl)) ?_;simp only[puts];refine takeM (d:=some 23) 18 rfl rfl hHeld (fun w' hS'=>by have qA:=hS'.1.cell;clear hS';go_simp;(try rfl)) ?_;simp only[puts];refine takeM (d:=some 24) 19 rfl rfl hHeld (fun w' _=>by go_simp;(try rfl)) ?_;simp only[puts]
 refine takeM (d:=some 25) 20 rfl rfl hHeld (fun w' hS'=>by have qA:=hS'.2.1.cell;clear hS';go_simp;(try rfl)) ?_;simp only[puts];refine takeM (d:=some 26) 21 rfl rfl hHeld (fun w' _=>by go_simp;(try rfl)) ?_;simp only[puts];refine takeM (d:=some 27) 22 rfl rfl hHeld (fun w' _=>by go_simp;(try rfl)) ?_;simp only[puts];refine takeM (d:=some 28) 23 rfl rfl hHeld (fun w' _=>by go_simp;(try rfl)) ?_
 simp only[puts];refine takeM (d:=some 29) 24 rfl rfl hHeld (fun w' _=>by go_simp;(try rfl)) ?_;simp only[puts];refine takeM (d:=some 30) 25 rfl rfl hHeld (fun w' hS'=>by have qA:=hS'.1.cell;clear hS';go_simp;(try rfl)) ?_;simp only[puts];refine takeM (d:=some 31) 26 rfl rfl hHeld (fun w' _=>by go_simp;(try rfl)) ?_;simp only[puts]
 refine takeM (d:=some 32) 27 rfl rfl hHeld (fun w' hS'=>by have qA:=hS'.2.1.cell;clear hS';go_simp;(try rfl)) ?_;simp only[puts];refine takeM (d:=some 33) 28 rfl rfl hHeld (fun w' _=>by go_simp;(try rfl)) ?_;simp only[puts];refine takeM (d:=some 34) 29 rfl rfl hHeld (fun w' _=>by go_simp;(try rfl)) ?_;simp only[puts];refine takeM (d:=some 35) 30 rfl rfl hHeld (fun w' _=>by go_simp;(try rfl)) ?_
 simp only[puts];refine takeM (d:=some 36) 31 rfl rfl hHeld (fun w' _=>by go_simp;(try rfl)) ?_;simp only[puts];refine takeM (d:=some 37) 32 rfl rfl hHeld (fun w' hS'=>by have qA:=hS'.1.cell;clear hS';go_simp;(try rfl)) ?_;simp only[puts];refine takeM (d:=some 39) 34 rfl rfl hHeld (fun w' _=>by go_simp;(try rfl)) ?_;simp only[puts]
 refine takeM (d:=some 40) 35 rfl rfl hHeld (fun w' hS'=>by have qA:=hS'.2.1.cell;clear hS';go_simp;(try rfl)) ?_;simp only[puts];refine one_M 33 (by kernel_rfl) ?_;refine wpOp_call (d:=some 38) 33 120 _ _ [.float .f64 cx] rfl rfl rfl (enters_of Tryz.func120 (by kernel_rfl) rfl) (by rfl) (by rfl) ?_;refine(HB1.out _).mono ?_;rintro e w2 ⟨rfl,rfl⟩;refine ret_S hHeld (fun hHeld=> ?_);simp only[puts]
 refine one_M 36 (by kernel_rfl) ?_;refine wpOp_call (d:=some 41) 36 120 _ _ [.float .f64 cx] rfl rfl rfl (enters_of Tryz.func120 (by kernel_rfl) rfl) (by rfl) (by rfl) ?_;refine(HB1.out _).mono ?_;rintro e w3 ⟨rfl,rfl⟩;refine ret_S hHeld (fun hHeld=> ?_);simp only[puts];refine takeM (d:=some 42) 37 rfl rfl hHeld (fun w' _=>by go_simp;(try rfl)) ?_;simp only[puts]
 refine takeM (d:=some 43) 38 rfl rfl hHeld (fun w' _=>by go_simp;(try rfl)) ?_;simp only[puts];refine takeM (d:=some 4) 39 rfl rfl hHeld (fun w' _=>by go_simp;(try rfl)) ?_;simp only[puts];refine doneM (by kernel_rfl) ?_ _;clear hHeld;obtain⟨lK1,qK1,fK1⟩:=K1.out;obtain⟨lK2,qK2,fK2⟩:=K2.out;go_wp2_with fail;refine bodyPost_ret (v:=.bool true) (by simp[results,Tryz.results79,go_sem]) rfl ?_
 clear qK1 fK1 lK1 qK2 fK2 lK2;exact⟨rfl,HB.out⟩
end Go.Proofs.YtlkajejbfojkeaaGreatDoor
