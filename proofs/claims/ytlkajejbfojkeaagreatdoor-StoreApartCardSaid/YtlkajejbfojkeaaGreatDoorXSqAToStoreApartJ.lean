/- SqA, LwSAp, FlOpen, OpF, Sent, Errs, WrapS, LaidS, StoreApartL, JoinS, StoreApartJ -/
import Derived.Test.YtlkajejbfojkeaaGreatDoorWQq
import Derived.Test.YtlkajejbfojkeaaGreatDoorRows
import Derived.WalkKit
import Derived.WalkSpells
import Derived.WalkLawsBesides
import Derived.BigQuiet
import Derived.Deep.QuietTactic
import Derived.StillTailTactics
import Derived.Handy
import Derived.Lib.Hide
import Derived.Test.YtlkajejbfojkeaaGreatDoorZSmCToRstQ
import Derived.Test.YtlkajejbfojkeaaGreatDoorWStoGToFacE
import Derived.Test.YtlkajejbfojkeaaGreatDoorZStoVToSpA
import Derived.Deep.RegionWith
import Derived.Test.YtlkajejbfojkeaaGreatDoorWStoSToRfcA
import Derived.Test.YtlkajejbfojkeaaGreatDoorWMovCToStoP
import Derived.ChangeArms
import Derived.Lib.SmallJoins
import Derived.Deep.Slices
import Derived.Laws.Cover2
import Derived.Test.YtlkajejbfojkeaaGreatDoorWTabPlainToMovB
import Derived.ProofKit
import Derived.LaidMore
import Derived.OpenShut
import Derived.Stop.Joined
import Derived.Carry
import Derived.SevenTiedAt
import Derived.HandedShaped
import Derived.Shelf.Vars
import Derived.Lib.LaidTab
import Derived.Lay
import Derived.JoinedOf
set_option linter.unusedSimpArgs false
set_option linter.unusedVariables false
set_option maxRecDepth 100000
set_option maxHeartbeats 16000000
namespace Go.Proofs.YtlkajejbfojkeaaGreatDoor
open Go.RowKit
attribute [local go_sem] store_float
def RegsW (B:Nat) (W:World) (v:Value) (n:Nat):Prop:=∃a c,v=.slice a n c∧(0<n→∃g,a=some ⟨g,0,none⟩∧B≤g∧g<W.heap.size∧(∀i,W.frozen? ⟨g,i,none⟩=false)∧∀j,j<n*6→∃u,W.cell? ⟨g,j,none⟩=some u)
theorem RegsW.of {B:Nat} {W:World} {T:TypeId} {v:Value} {rs:List SReg} (h:W.ownsRow B T 6 v rs.length (regsL rs)):RegsW B W v rs.length:=by
 obtain⟨a,c,rfl,_,hr⟩:=reg_row h;refine⟨a,c,rfl,fun hn=> ?_⟩;obtain⟨g,rfl,hg,hf,hc⟩:=hr hn;refine⟨g,rfl,(h.lt g rfl).1,hg,hf,fun j hj=> ?_⟩;have hq:j / 6<rs.length:=by omega
 obtain⟨r0,r1,r2,r3,r4,r5⟩:=hc (j / 6) _ (List.getElem?_eq_getElem hq);have h6:j % 6=0∨j % 6=1∨j % 6=2∨j % 6=3∨j % 6=4∨j % 6=5:=by omega
 rcases h6 with e | e | e | e | e | e
 · exact⟨_,by rw[show j=j / 6*6 by omega];exact r0⟩
 · exact⟨_,by rw[show j=j / 6*6+1 by omega];exact r1⟩
 · exact⟨_,by rw[show j=j / 6*6+2 by omega];exact r2⟩
 · exact⟨_,by rw[show j=j / 6*6+3 by omega];exact r3⟩
 · exact⟨_,by rw[show j=j / 6*6+4 by omega];exact r4⟩
 · exact⟨_,by rw[show j=j / 6*6+5 by omega];exact r5⟩
theorem RegsW.below {B:Nat} {W W':World} {v:Value} {n:Nat} (h:RegsW B W v n) (hb:Below W.heap.size W W'):RegsW B W' v n:=by
 obtain⟨a,c,rfl,hr⟩:=h;refine⟨a,c,rfl,fun hn=> ?_⟩;obtain⟨g,rfl,h1,h2,h3,h4⟩:=hr hn;exact⟨g,rfl,h1,Nat.lt_of_lt_of_le h2 hb.size,fun i=>(hb.frozen (p:=⟨g,i,none⟩) h2).trans (h3 i),fun j hj=>by obtain⟨u,hu⟩:=h4 j hj;exact⟨u,(hb.cell (p:=⟨g,j,none⟩) h2).trans hu⟩⟩
theorem RegsW.set {B:Nat} {W:World} {v:Value} {n:Nat} (h:RegsW B W v n) (b o:Nat) (x:Value):RegsW B (W.setCell ⟨b,o,none⟩ x) v n:=by
 obtain⟨a,c,rfl,hr⟩:=h;refine⟨a,c,rfl,fun hn=> ?_⟩;obtain⟨g,rfl,h1,h2,h3,h4⟩:=hr hn;refine⟨g,rfl,h1,by simpa using h2,fun i=>by rw[World.frozen?_setCell];exact h3 i,fun j hj=> ?_⟩;obtain⟨u,hu⟩:=h4 j hj;by_cases e:b=g∧o=j
 · obtain⟨rfl,rfl⟩:=e;exact⟨x,World.cell?_setCell_same _ _ _ hu⟩
 · exact⟨u,by rw[World.cell?_setCell_other (h:=by intro e2;injection e2 with e3 e4;exact e ⟨e3,e4⟩)];exact hu⟩
theorem RegsW.mono {B B':Nat} {W:World} {v:Value} {n:Nat} (h:RegsW B W v n) (hB:B'≤B):RegsW B' W v n:=by
 obtain⟨a,c,rfl,hr⟩:=h;exact⟨a,c,rfl,fun hn=>by obtain⟨g,h1,h2,h3⟩:=hr hn;exact⟨g,h1,Nat.le_trans hB h2,h3⟩⟩
structure ActsW (B:Nat) (v:Value) (al:List SAct) (vs:List Value) (W:World):Prop where
 len:vs.length=al.length
 row:∃a c,v=.slice a al.length c∧(0<al.length→∃g,a=some ⟨g,0,none⟩∧g<W.heap.size∧∀(i:Nat) (a:SAct) (x:Value),al[i]? =some a→vs[i]? =some x→ActC W g (i*8) a x)
 regs:∀(i:Nat) (a:SAct) (x:Value),al[i]? =some a→vs[i]? =some x→RegsW B W x a.regs.length
 apart:∀x∈vs,∀k,x.ownBlock=some k→v.ownBlock≠some k
theorem ActsW.of {B:Nat} {v:Value} {al:List SAct} {vs:List Value} {W:World} (h:ActsIn B v al vs W):ActsW B v al vs W:=by
 refine⟨h.len,?_,fun i a x h1 h2=> .of (h.regs i a x h1 h2),h.apart⟩;obtain⟨a,c,rfl,_,hr⟩:=act_row h.len h.row;exact⟨a,c,rfl,fun hn=>by obtain⟨g,h1,h2,_,h4⟩:=hr hn;exact⟨g,h1,h2,h4⟩⟩
theorem ActsW.below {B:Nat} {v:Value} {al:List SAct} {vs:List Value} {W W':World} (h:ActsW B v al vs W) (hb:Below W.heap.size W W'):ActsW B v al vs W':=by
 refine⟨h.len,?_,fun i a x h1 h2=>(h.regs i a x h1 h2).below hb,h.apart⟩;obtain⟨a,c,hv,hr⟩:=h.row;exact⟨a,c,hv,fun hn=>by obtain⟨g,h1,h2,h4⟩:=hr hn;exact⟨g,h1,Nat.lt_of_lt_of_le h2 hb.size,fun i a x ha hx=>(h4 i a x ha hx).below hb h2⟩⟩
theorem ActC.set {W:World} {g o:Nat} {a:SAct} {x:Value} (h:ActC W g o a x) (b p:Nat) (u:Value) (hne:b≠g):ActC (W.setCell ⟨b,p,none⟩ u) g o a x:=by
 unfold ActC at h⊢;simp only[World.cell?_setCell_far _ ⟨b,p,none⟩ ⟨g,_,none⟩ _ hne];exact h
theorem ActsW.set {B:Nat} {v:Value} {al:List SAct} {vs:List Value} {W:World} (h:ActsW B v al vs W) (b p:Nat) (u:Value) (hne:v.ownBlock≠some b):ActsW B v al vs (W.setCell ⟨b,p,none⟩ u):=by
 refine⟨h.len,?_,fun i a x h1 h2=>(h.regs i a x h1 h2).set b p u,h.apart⟩;obtain⟨a,c,hv,hr⟩:=h.row;refine⟨a,c,hv,fun hn=> ?_⟩;obtain⟨g,h1,h2,h4⟩:=hr hn;exact⟨g,h1,by simpa using h2,fun i a x ha hx=>(h4 i a x ha hx).set b p u (fun e=>hne (by rw[hv,h1,e];rfl))⟩
theorem Child_zero (L:SLoc) (S:Sto) (pt:Int) (w:World) (h:StoreAt L S w) (hG:StoGood S) (hp:0≤pt∧pt<(S.parts.length:Int)) (hc:schild S (pt+1)=none):Calls Tryz.prog 27 #[.pointer (some ⟨L.sb,0,none⟩),.int .i64 pt] w (Makes (.tuple #[.agg #[.int .i64 0,.int .i64 0,.int .i64 0,.int .i64 0,.float .f64 0,.int .i64 0,.int .i64 0,.slice none 0 0],.bool false]) w):=by
 have H:=qq h;have HH:=qq (fun W hW=>has_of L S pt W hW);rw[decide_eq_true hp] at HH;have HC:=qq (fun W hW=>child_of L S (pt+1) W hW hG);rw[if_neg (by omega)] at HC;rw[hc] at HC;dsimp only[aptr,Option.bind] at HC;have h8:=hG.parts;have HGN:=qq (fun W=>got_no W);dsimp only[act0V] at HGN;clear h hG hc;go_enter Tryz.func27,Tryz.ntmps27;go_wp2_with fail
 refine(HH.out _ (H.out.below (bel_alloc (Below.refl w.heap.size w) _))).mono ?_;rintro e w1 ⟨rfl,rfl⟩;go_wp2_with fail;refine(HC.out _ (H.out.below (bel_alloc (Below.refl w.heap.size w) _))).mono ?_;rintro e w2 ⟨rfl,hb2⟩;have K1:=qq ((Blk.fresh _ _ _ (w.heap.size) (by simp)).below hb2);have HB:=qq (below_then (bel_alloc (Below.refl w.heap.size w) _) hb2);have z2:=HB.out.size;clear hb2
 obtain⟨lK1,qK1,fK1⟩:=K1.out;go_wp2_with fail;clear qK1 fK1 lK1;refine(HGN.out _).mono ?_;rintro e w3 ⟨rfl,hb3⟩;have K1:=qq (K1.out.below hb3);have HB:=qq (below_then HB.out hb3);have z3:=HB.out.size;clear hb3;obtain⟨lK1,qK1,fK1⟩:=K1.out;go_wp2_with fail
 have hV0:=(sst (sst (sst (sst (sst (sst (sst (sst K1.out 0 (.int .i64 0)) 1 (.int .i64 0)) 2 (.int .i64 0)) 3 (.int .i64 0)) 4 (.float .f64 0)) 5 (.int .i64 0)) 6 (.int .i64 0)) 7 (.slice none 0 0))
 have hVq0:=hV0.cell;have hVf0:=hV0.free;refine bodyPost_ret (v:=.tuple #[.agg #[.int .i64 0,.int .i64 0,.int .i64 0,.int .i64 0,.float .f64 0,.int .i64 0,.int .i64 0,.slice none 0 0],.bool false]) (by simp[results,Tryz.results27,go_sem,hVq0,hVf0]) rfl ?_;clear qK1 fK1 lK1
 exact⟨rfl,(bst (bst (bst (bst (bst (bst (bst (bst HB.out w.heap.size 0 _) w.heap.size 1 _) w.heap.size 2 _) w.heap.size 3 _) w.heap.size 4 _) w.heap.size 5 _) w.heap.size 6 _) w.heap.size 7 _)⟩
def ChildW (w:World) (e:Ending) (w':World):Prop:=∃(an aq oc dp:Int) (ex:Nat) (pa de:Int) (va:Option Addr) (vn vc:Nat) (b:Bool),e=.returned (.tuple #[.agg #[an,aq,oc,dp,.float .f64 ex,pa,de,.slice va vn vc],.bool b])∧vn≤6∧RegsW w.heap.size w' (.slice va vn vc) vn∧Below w.heap.size w w'
theorem Child_w (L:SLoc) (S:Sto) (pt:Int) (w:World) (h:StoreAt L S w) (hG:StoGood S) (hp:0≤pt∧pt<(S.parts.length:Int)):Calls Tryz.prog 27 #[.pointer (some ⟨L.sb,0,none⟩),.int .i64 pt] w (ChildW w):=by
 cases hc:schild S (pt+1) with
 | none=>exact(Child_zero L S pt w h hG hp hc).mono (fun e w' h=>⟨0,0,0,0,0,0,0,none,0,0,false,h.1,by omega,⟨none,0,rfl,fun h=>absurd h (by omega)⟩,h.2⟩)
 | some i=>
  obtain⟨a,ha,hm⟩:=schild_some hc;refine(Child_is L S pt w h hG hp i a hc ha).mono (fun e w' h=> ?_);obtain⟨v',he,ho,hb⟩:=h;have hr:=RegsW.of ho;obtain⟨va,vc,rfl,_⟩:=hr;exact⟨a.an,a.aq,a.oc,a.dp,a.ex,a.pa,a.de,va,a.regs.length,vc,true,he,(hG.act a hm).len,RegsW.of ho,hb⟩
theorem law_sapart (v:Value) (fs:List SFact) (ea:Int→Addr) (w:World) (hE:EnvS ea w) (hR:ReadFacts w v fs) (hF:∀f∈fs,F64 f.ex):Calls Tryz.prog 4 #[v] w (Makes (.bool true) w):=by
 obtain⟨a,cap,rfl,hcells⟩:=hR;obtain⟨n0,hn⟩:∃n,n=fs.length:=⟨_,rfl⟩
 rw[←hn];have HC:=qq hcells;have HN0:=qq hn;have HE:=qq hE;have HF:=qq hF;have HAL:=qq (fun W (hW:Below w.heap.size w W)=>alive15_of ea W (hE.below hW));clear hcells hn hE hF;by_cases hl:100<n0
 · have d1:decide ((n0:Int)>100)=true:=decide_eq_true (by omega);have d2:decide ((100:Int)<(n0:Int))=true:=decide_eq_true (by omega);go_enter Tryz.func4,Tryz.ntmps4;go_wp2_with fail;refine(HAL.out _ (by go_grown)).mono ?_;rintro e w1 ⟨rfl,hb1⟩;go_wp2_with fail;go_ret;exact⟨rfl,hb1⟩
 have d1:decide ((n0:Int)>100)=false:=decide_eq_false (by omega);have d2:decide ((100:Int)<(n0:Int))=false:=decide_eq_false (by omega);have HN:=qq (fun W=>snew_yes 1 W (by omega));have HG:=qq (fun gs=>splay_good (node:=1) (by omega) gs);go_enter Tryz.func4,Tryz.ntmps4;go_wp2_with fail;refine(HAL.out _ (by go_grown)).mono ?_;rintro e w1 ⟨rfl,hb1⟩;go_wp2_with fail;refine(HN.out _).mono ?_
 rintro e w2 ⟨rfl,rfl⟩;have HB0:=qq (built_start (w:=w1) (W:=w1.alloc (.cells #[.int .i64 1,.int .i64 0,.slice none 0 0,.slice none 0 0] 154)) (node:=1) (x:=w1.heap.size) (by go_grown) (Blk.fresh w1 _ _ _ rfl) (Nat.le_refl _) 34);rw[show(w1.alloc (.cells #[.int .i64 1,.int .i64 0,.slice none 0 0,.slice none 0 0] 154)).heap.size=w1.heap.size+1 by simp] at HB0;have HBA:=qq hb1;clear hb1 HN
 go_wp2_with fail;clear d1 d2;go_loopw [34] (fun i wr=>∃k:Nat,k≤n0∧i=.int .i64 (k:Nat)∧Hid (∃L R,L.sb=w1.heap.size∧R.sb=w1.heap.size+1∧Built L R (splay 1 (fs.take k)) w1 wr)) (fun i _=>n0 - (intOf i).toNat)
 case atStart=>exact⟨0,by omega,by first | rfl | go_num,qq ⟨_,_,rfl,rfl,HB0.out⟩⟩
 case round=>
  obtain⟨k,hk,rfl,HBU0⟩:=hrel;obtain⟨L,R,hLb,hRb,hB⟩:=HBU0.out;by_cases hlt:k<n0
  · have hks:k<fs.length:=by rw[←HN0.out];exact hlt
    obtain⟨b,off,rfl,hbl,hfact⟩:=HC.out (by intro e;rw[e] at hks;simp at hks);have HBW:=qq (HBA.out.trans (hB.be.mono HBA.out.size));obtain⟨f,hf⟩:∃f,f=fs[k]:=⟨_,rfl⟩
    have hat:=(hfact k hks).below HBW.out hbl;rw[←hf] at hat;have hx:F64 f.ex:=HF.out f (by rw[hf];exact List.getElem_mem hks);have hsn:splay 1 (fs.take (k+1))=(sapply (splay 1 (fs.take k)) f).1:=by
     rw[List.take_succ_eq_append_getElem hks,splay_snoc,hf]
    have HSN:=qq hsn;have HG1:=qq (HG.out (fs.take k));obtain⟨S,hS⟩:∃S,S=splay 1 (fs.take k):=⟨_,rfl⟩
    rw[←hS] at hB HSN HG1;obtain⟨T,hT⟩:∃T,T=(sapply S f).1:=⟨_,rfl⟩
    rw[←hT] at HSN;have hwr:=hB.be.size;have hLz:w1.heap.size<wr.heap.size:=by have:=hB.st.blk.lt;omega
    have HA:=qq (fun L W (hW:EnvG L ea W) (hs:StoreAt L S W)=>apply_of L S f ea W hx hW hs HG1.out);have HRA:=qq (fun R W (hs:RStoreAt R S W)=>rapply_of R S f W hx hs HG1.out);rw[←hT] at HA HRA;obtain⟨en,hen⟩:∃en,en=(sapply S f).2:=⟨_,rfl⟩
    rw[←hen] at HA HRA;have HB:=qq hB;obtain⟨c0,c1,c2,c3,c4,c5,c6,c7,c8,c9,c10,c11,c12,c13⟩:=hat;have hki:(k:Int)<(n0:Int):=by omega
    have hk0:(0:Int)≤(k:Int):=by omega
    have hbw:b<wr.heap.size:=by have:=HBW.out.size;omega
    clear hB hfact hf hsn hS hT hen HBU0 hx;obtain⟨k',an,aq,rg,nd,pt,pr,oc,dp,pa,st,hw,de,ex⟩:=f;dsimp only[factV,factC,ApplyEnds,RApplyEnds] at*;go_wp2_with fail;rw[←hLb];refine(HA.out L _ (envG_of HE.out (below_then HBW.out (by go_grown)) (fun j hj=>Nat.le_trans HBA.out.size (HB.out.nl j hj))) (HB.out.st.below (by go_grown))).mono ?_;rintro e w2 ⟨rfl,hs⟩
    obtain⟨L2,hL2,hH,hz2,hbk⟩:=(HB.out.below (w2:=wr.alloc (.cells #[k',an,aq,rg,nd,pt,pr,oc,dp,pa,st,hw,de,.float .f64 ex] 39)) (by go_grown)).first hs;have HX:=qq (((Blk.fresh wr #[k',an,aq,rg,nd,pt,pr,oc,dp,pa,st,hw,de,.float .f64 ex] 39 _ rfl)).same hz2 (hbk _ (by simp) (fun h=>by have:=HB.out.st.lt _ h;omega)));have HH:=qq hH;have q:=HX.out.cell;have hzz:=HX.out.lt;clear hs hH hbk
    go_wp2_with fail;rw[←hRb];refine(HRA.out R _ HH.out.rs).mono ?_;rintro e w3 ⟨rfl,hs⟩;obtain⟨R2,hR2,hB3⟩:=HH.out.second hs;have HB3:=qq hB3;clear hs hB3 q;go_wp2_with fail;go_roundw
    case rel=>exact⟨k+1,by omega,by go_num,qq ⟨L2,R2,by rw[hL2,hLb],by rw[hR2,hRb],by rw[HSN.out];exact HB3.out⟩⟩
    case measure=>(simp[intOf];omega)
  · obtain rfl:k=n0:=by omega
    rw[show fs.take k=fs from List.take_of_length_le (by rw[←HN0.out];exact Nat.le_refl _)] at hB;have HGS:=qq (HG.out fs);obtain⟨S,hS⟩:∃S,S=splay 1 fs:=⟨_,rfl⟩
    rw[←hS] at hB HGS;rw[←hRb,←hLb];obtain⟨w4,rfl⟩:∃w4:World,w4=wr:=⟨_,rfl⟩
    have H4:=qq hB.st;have HR4:=qq hB.rs;have HBW:=qq (HBA.out.trans (hB.be.mono HBA.out.size));have HAT:=qq (fun W hW=>acts_of L S W hW HGS.out);obtain⟨n,hn⟩:∃n,n=S.acts.length:=⟨_,rfl⟩
    obtain⟨m,hm⟩:∃m,m=S.parts.length:=⟨_,rfl⟩
    have h8:n≤8:=by rw[hn];exact HGS.out.acts
    have m8:m≤8:=by rw[hm];exact HGS.out.parts
    have HN:=qq hn;have HM:=qq hm;clear hB hS HBU0 hLb hRb HG HC HF HAL HB0 hn hm hk hlt HN0;go_wp2_with fail;refine(HAT.out _ H4.out).mono ?_;rintro e w5 ⟨v1,vs,rfl,ha,hb5⟩;obtain⟨xa,xc,rfl,_,_⟩:=act_row ha.len ha.row;rw[←HN.out] at ha⊢;have HA0:=qq (ActsW.of ha);have HB5:=qq hb5;clear ha hb5;go_wp2_with fail
    go_loopw [48] (fun i wr=>∃k:Nat,k≤n∧i=.int .i64 (k:Nat)∧Hid (ActsW w4.heap.size (.slice xa n xc) S.acts vs wr)∧Hid (Below w4.heap.size w4 wr)) (fun i _=>n - (intOf i).toNat)
    case atStart=>exact⟨0,by omega,by first | rfl | go_num,HA0,HB5⟩
    case round=>
     obtain⟨k,hk,rfl,HA,HB⟩:=hrel;by_cases hlt:k<n
     · have hki:(k:Int)<(n:Int):=by omega
       have hk0:(0:Int)≤(k:Int):=by omega
       obtain⟨a,ha⟩:∃a,S.acts[k]? =some a:=⟨_,List.getElem?_eq_getElem (by rw[←HN.out];exact hlt)⟩
       obtain⟨x,hx⟩:∃x,vs[k]? =some x:=⟨_,List.getElem?_eq_getElem (by rw[HA.out.len,←HN.out];exact hlt)⟩
       obtain⟨xa',xc',hxe,hrow⟩:=HA.out.row;obtain⟨ga,rfl,hgl,hcl⟩:=hrow (by rw[←HN.out];omega);simp only[Value.slice.injEq] at hxe;obtain⟨rfl,-,rfl⟩:=hxe;have hat:=hcl k a x ha hx;have HRW:=qq (HA.out.regs k a x ha hx);have HAX:=qq (HA.out.apart x (List.mem_of_getElem? hx));obtain⟨va,vc,rfl,hrg⟩:=HRW.out;obtain⟨an,aq,oc,dp,ex,pa,de,rs⟩:=a;unfold ActC at hat;dsimp only at hat HRW hrg HAX
       obtain⟨vn,hvn⟩:∃n,n=rs.length:=⟨_,rfl⟩
       rw[←hvn] at hat HRW HAX hrg;obtain⟨e0,e1,e2,e3,e4,e5,e6,e7⟩:=hat;have hvl:vn≤6:=by have:=(HGS.out.act _ (List.mem_of_getElem? ha)).len;dsimp only at this;omega
       obtain⟨w6,rfl⟩:∃w6:World,w6=wr:=⟨_,rfl⟩
       have HGK:Hid (0<vn→∀g,va=some ⟨g,0,none⟩→g≠w6.heap.size):=qq (fun h0 g e=>by
         obtain⟨g',e',_,hl,_⟩:=hrg h0;rw[e'] at e;injection e with e;injection e with e;omega)
       clear ha hx hcl hrow hvn hrg;go_wp2_with fail;go_loopw [55] (fun i wr=>∃j:Nat,j≤vn∧i=.int .i64 (j:Nat)∧Hid (ActsW w4.heap.size (.slice (some ⟨ga,0,none⟩) n xc) S.acts vs wr)∧Hid (RegsW w4.heap.size wr (.slice va vn vc) vn)∧Hid (Blk wr w6.heap.size #[an,aq,oc,dp,.float .f64 ex,pa,de,.slice va vn vc])∧Hid (Below w4.heap.size w4 wr)) (fun i _=>vn - (intOf i).toNat)
       case atStart=>exact⟨0,by omega,by first | rfl | go_num,qq (HA.out.below (by go_grown)),qq (HRW.out.below (by go_grown)),qq (Blk.fresh _ _ _ _ rfl),qq (HB.out.alloc HB.out.size _)⟩
       case round=>
        obtain⟨j,hj,rfl,HA2,HR2,HK,HB2⟩:=hrel;have q:=HK.out.cell;have lK:=HK.out.lt;by_cases hlt2:j<vn
        · have hji:(j:Int)<(vn:Int):=by omega
          have hj0:(0:Int)≤(j:Int):=by omega
          obtain⟨va',vc',hve,hreg⟩:=HR2.out;obtain⟨g,rfl,hBg,hg,hf,hc⟩:=hreg (by omega);simp only[Value.slice.injEq] at hve;obtain⟨rfl,-,rfl⟩:=hve;obtain⟨u,hu⟩:=hc (j*6+1) (by omega);have hfu:=hf (j*6+1);have q7:=q 7;have hgk:=HGK.out (by omega) g rfl;have HBG:=qq hBg;clear hreg hc q hf hBg;go_wp2_with fail
          all_goals (go_roundw<;>first | exact⟨j+1,by omega,by go_num,qq (HA2.out.set g _ _ (HAX.out g rfl)),qq (HR2.out.set _ _ _),qq (HK.out.other (p:=⟨g,_,none⟩) hgk _),qq (HB2.out.setCell HBG.out _)⟩ | (simp[intOf];omega))
        · obtain rfl:j=vn:=by omega
          have q7:=q 7;clear q;go_wp2_with fail
          all_goals (go_roundw<;>first | exact⟨k+1,by omega,by go_num,HA2,HB2⟩ | (simp[intOf];omega))
     · obtain rfl:n=k:=by omega
       obtain⟨w7,rfl⟩:∃w7:World,w7=wr:=⟨_,rfl⟩
       clear HA hlt hk HA0 HB5;go_wp2_with fail;refine(HAT.out _ (H4.out.below HB.out)).mono ?_;rintro e w8 ⟨v2,vs2,rfl,ha,hb8⟩;obtain⟨xb,xd,rfl,_,_⟩:=act_row ha.len ha.row;rw[←HN.out] at ha⊢;have HA8:=qq (ActsW.of ha);have HB8:=qq (below_then HB.out hb8);clear ha hb8;go_wp2_with fail
       go_loopw [68] (fun i wr=>∃k:Nat,k≤n∧i=.int .i64 (k:Nat)∧Hid (ActsW w7.heap.size (.slice xb n xd) S.acts vs2 wr)∧Hid (Below w4.heap.size w4 wr)) (fun i _=>n - (intOf i).toNat)
       case atStart=>exact⟨0,by omega,by first | rfl | go_num,HA8,HB8⟩
       case round=>
        obtain⟨k,hk,rfl,HA,HB⟩:=hrel;by_cases hlt:k<n
        · have hki:(k:Int)<(n:Int):=by omega
          have hk0:(0:Int)≤(k:Int):=by omega
          obtain⟨a,ha⟩:∃a,S.acts[k]? =some a:=⟨_,List.getElem?_eq_getElem (by rw[←HN.out];exact hlt)⟩
          obtain⟨x,hx⟩:∃x,vs2[k]? =some x:=⟨_,List.getElem?_eq_getElem (by rw[HA.out.len,←HN.out];exact hlt)⟩
          obtain⟨xa',xc',hxe,hrow⟩:=HA.out.row;obtain⟨ga,rfl,hgl,hcl⟩:=hrow (by rw[←HN.out];omega);simp only[Value.slice.injEq] at hxe;obtain⟨rfl,-,rfl⟩:=hxe;have hat:=hcl k a x ha hx;have HFD:=qq (fun W hW=>Find_yes L S a.an a.aq k a W hW HGS.out (lGet_at HGS.out ha));have HRX:=HA.out.regs k a x ha hx;obtain⟨ya,yc,rfl,_⟩:=HRX;obtain⟨an,aq,oc,dp,ex,pa,de,rs⟩:=a;unfold ActC at hat
          unfold ActOut at HFD;dsimp only[actC] at hat HFD;have hvl:rs.length≤6:=by have:=(HGS.out.act _ (List.mem_of_getElem? ha)).len;dsimp only at this;omega
          obtain⟨vn,hvn⟩:∃n,n=rs.length:=⟨_,rfl⟩
          have HVN:=qq hvn;rw[←hvn] at hat HFD hvl;obtain⟨e0,e1,e2,e3,e4,e5,e6,e7⟩:=hat;obtain⟨w9,rfl⟩:∃w9:World,w9=wr:=⟨_,rfl⟩
          clear ha hx hcl hrow hvn;go_wp2_with fail;refine(HFD.out _ (H4.out.below (below_then HB.out (by go_grown)))).mono ?_;rintro e w10 ⟨v',rfl,ho,hb10⟩;obtain⟨va,vc,rfl,_,_⟩:=reg_row ho;have HRW:Hid (RegsW w9.heap.size w10 (.slice va vn vc) vn):=qq (by
            have h:=ho;rw[HVN.out] at h⊢;exact(RegsW.of h).mono (by simp))
          have HBR:=qq (below_then (show Below w9.heap.size w9 _ from(Below.refl w9.heap.size w9).alloc (Nat.le_refl _) (.cells #[an,aq,oc,dp,.float .f64 ex,pa,de,.slice ya vn yc] 51)) hb10);have HGK:Hid (0<vn→∀g,va=some ⟨g,0,none⟩→g≠w10.heap.size):=qq (fun h0 g e=>by
            obtain⟨a',c',e1,hr⟩:=HRW.out;obtain⟨g',e',_,hl,_⟩:=hr h0;simp only[Value.slice.injEq] at e1;obtain⟨e1,_⟩:=e1;rw[e1,e'] at e;injection e with e;injection e with e;omega)
          clear ho hb10 e0 e1 e2 e3 e4 e5 e6 e7;go_wp2_with fail;go_loopw [83] (fun i wr=>∃j:Nat,j≤vn∧i=.int .i64 (j:Nat)∧Hid (RegsW w9.heap.size wr (.slice va vn vc) vn)∧Hid (Blk wr w10.heap.size #[an,aq,oc,dp,.float .f64 ex,pa,de,.slice va vn vc])∧Hid (Below w9.heap.size w9 wr)) (fun i _=>vn - (intOf i).toNat)
          case atStart=>exact⟨0,by omega,by first | rfl | go_num,qq (HRW.out.below (by go_grown)),qq (Blk.fresh _ _ _ _ rfl),qq (HBR.out.alloc HBR.out.size _)⟩
          case round=>
           obtain⟨j,hj,rfl,HR2,HK,HB2⟩:=hrel;have q:=HK.out.cell;have lK:=HK.out.lt;by_cases hlt2:j<vn
           · have hji:(j:Int)<(vn:Int):=by omega
             have hj0:(0:Int)≤(j:Int):=by omega
             obtain⟨va',vc',hve,hreg⟩:=HR2.out;obtain⟨g,rfl,hBg,hg,hf,hc⟩:=hreg (by omega);simp only[Value.slice.injEq] at hve;obtain⟨rfl,-,rfl⟩:=hve;obtain⟨u,hu⟩:=hc (j*6) (by omega);have hfu:=hf (j*6);have q7:=q 7;have hgk:=HGK.out (by omega) g rfl;have HBG:=qq hBg;clear hreg hc q hf hBg;go_wp2_with fail
             all_goals (go_roundw<;>first | exact⟨j+1,by omega,by go_num,qq (HR2.out.set _ _ _),qq (HK.out.other (p:=⟨g,_,none⟩) hgk _),qq (HB2.out.setCell HBG.out _)⟩ | (simp[intOf];omega))
           · obtain rfl:j=vn:=by omega
             have q7:=q 7;clear q;go_wp2_with fail
             all_goals (go_roundw<;>first | exact⟨k+1,by omega,by go_num,qq (HA.out.below HB2.out),qq (below_then HB.out HB2.out)⟩ | (simp[intOf];omega))
        · obtain rfl:n=k:=by omega
          obtain⟨w11,rfl⟩:∃w11:World,w11=wr:=⟨_,rfl⟩
          have HPT:=qq (fun W hW=>parts_of L S W hW HGS.out.parts);rw[←HM.out] at HPT;clear HA hlt hk HA8 HB8;go_wp2_with fail;refine(HPT.out _ (H4.out.below HB.out)).mono ?_;rintro e w12 ⟨v3,rfl,hp,hb12⟩;obtain⟨pb,pd,rfl⟩:=row_slice hp;have HP0:=qq hp;have HB12:=qq (below_then HB.out hb12);clear hp hb12;go_wp2_with fail
          go_loopw [96] (fun i wr=>∃k:Nat,k≤m∧i=.int .i64 (k:Nat)∧Hid (World.ownsRow wr w11.heap.size 61 7 (.slice pb m pd) m (partsL S.parts))∧Hid (Below w4.heap.size w4 wr)) (fun i _=>m - (intOf i).toNat)
          case atStart=>exact⟨0,by omega,by first | rfl | go_num,HP0,HB12⟩
          case round=>
           obtain⟨k,hk,rfl,HP,HB⟩:=hrel;by_cases hlt:k<m
           · have hki:(k:Int)<(m:Int):=by omega
             have hk0:(0:Int)≤(k:Int):=by omega
             obtain⟨p,hp⟩:∃p,S.parts[k]? =some p:=⟨_,List.getElem?_eq_getElem (by rw[←HM.out];exact hlt)⟩
             have HPP:=qq hp;have HCW:=qq (fun W hW=>Child_w L S (k:Int) W hW HGS.out ⟨hk0,by rw[←HM.out];exact hki⟩);unfold ChildW at HCW;obtain⟨pb',pd',hpe,_,hrow⟩:=part_row HP.out;obtain⟨gp,rfl,hgp,_,hcl⟩:=hrow (by omega);simp only[Value.slice.injEq] at hpe;obtain⟨hp1,-,hp2⟩:=hpe;subst hp1 hp2;have hat:=hcl k p hp;obtain⟨pn,pq,pg,⟨sp,sd,ss,sh⟩⟩:=p;unfold PartC at hat;dsimp only at hat
             obtain⟨e0,e1,e2,e3,e4,e5,e6⟩:=hat;obtain⟨w13,rfl⟩:∃w13:World,w13=wr:=⟨_,rfl⟩
             have HK0:Hid (Blk (w13.alloc (.cells #[pn,pq,.int .i64 99,sp,sd,ss,sh] 61)) w13.heap.size #[.int .i64 pn,.int .i64 pq,.int .i64 99,.int .i64 sp,.int .i64 sd,.int .i64 ss,.int .i64 sh]):=qq (Blk.fresh _ _ _ _ rfl);have hk17:=HK0.out.cell;have lk17:=HK0.out.lt;clear hp hrow hcl;go_wp2_with fail
             go_region_with (go_at_call 26;refine(HPT.out _ (H4.out.below (below_then HB.out (by go_grown)))).mono ?_;rintro e w14 ⟨v4,rfl,hp4,hb14⟩;have hk14:=(HK0.out.drew.below hb14).cell;have HRB:=qq (below_then (show Below w13.heap.size w13 (w13.alloc (.cells #[pn,pq,.int .i64 99,sp,sd,ss,sh] 61)).drew by go_grown) hb14);obtain⟨pe,pf,hv4,_,hrow4⟩:=part_row hp4;obtain⟨g4,rfl,hg4,hf4,hc4⟩:=hrow4 (by omega);have hown4:=(hp4.lt g4 (by rw[hv4];rfl)).1;subst hv4;obtain⟨u0,u1,u2,u3,u4,u5,u6⟩:=hc4 k _ HPP.out;dsimp only at u0 u1 u2 u3 u4 u5 u6;clear hp4 hb14 hrow4 hc4)
             all_goals
              have HG4:=qq (show w13.heap.size≤g4 by have:=hown4;simp at this;omega)
              obtain⟨w15,hw15⟩:∃W,W=(((((((w14.setCell ⟨g4,k*7,none⟩ (.int .i64 pn)).setCell ⟨g4,k*7+1,none⟩ (.int .i64 pq)).setCell ⟨g4,k*7+2,none⟩ (.int .i64 99)).setCell ⟨g4,k*7+3,none⟩ (.int .i64 sp)).setCell ⟨g4,k*7+4,none⟩ (.int .i64 sd)).setCell ⟨g4,k*7+5,none⟩ (.int .i64 ss)).setCell ⟨g4,k*7+6,none⟩ (.int .i64 sh)):=⟨_,rfl⟩
              have HBR:Hid (Below w13.heap.size w13 w15):=by rw[hw15];exact qq (((((((HRB.out.setCell HG4.out _).setCell HG4.out _).setCell HG4.out _).setCell HG4.out _).setCell HG4.out _).setCell HG4.out _).setCell HG4.out _)
              rw[←hw15];clear hw15 u0 u1 u2 u3 u4 u5 u6 hf4 hg4 hown4 hk14 HRB hk17 lk17 e0 e1 e2 e3 e4 e5 e6;go_wp2_with fail;refine(HCW.out _ (H4.out.below (below_then HB.out HBR.out))).mono ?_;rintro e w16 ⟨an,aq,oc,dp,ex,pa,de,va,vn,vc,cb,rfl,hvl,hrw,hb16⟩;have HRW:=qq (hrw.mono HBR.out.size);have HBR:=qq (below_then HBR.out hb16)
              have HGK:Hid (0<vn→∀g,va=some ⟨g,0,none⟩→g≠w16.heap.size):=qq (fun h0 g e=>by
                obtain⟨a',c',e1,hr⟩:=HRW.out;obtain⟨g',e',_,hl,_⟩:=hr h0;simp only[Value.slice.injEq] at e1;obtain⟨e1,_⟩:=e1;rw[e1,e'] at e;injection e with e;injection e with e;omega)
              clear hrw hb16;go_wp2_with fail;go_loopw [116] (fun i wr=>∃j:Nat,j≤vn∧i=.int .i64 (j:Nat)∧Hid (RegsW w13.heap.size wr (.slice va vn vc) vn)∧Hid (Blk wr w16.heap.size #[an,aq,oc,dp,.float .f64 ex,pa,de,.slice va vn vc])∧Hid (Below w13.heap.size w13 wr)) (fun i _=>vn - (intOf i).toNat)
              case atStart=>exact⟨0,by omega,by first | rfl | go_num,qq (HRW.out.below (by go_grown)),qq (Blk.fresh _ _ _ _ rfl),qq (HBR.out.alloc HBR.out.size _)⟩
              case round=>
               obtain⟨j,hj,rfl,HR2,HK,HB2⟩:=hrel;have q:=HK.out.cell;have lK:=HK.out.lt;by_cases hlt2:j<vn
               · have hji:(j:Int)<(vn:Int):=by omega
                 have hj0:(0:Int)≤(j:Int):=by omega
                 obtain⟨va',vc',hve,hreg⟩:=HR2.out;obtain⟨g,rfl,hBg,hg,hf,hc⟩:=hreg (by omega);simp only[Value.slice.injEq] at hve;obtain⟨rfl,-,rfl⟩:=hve;obtain⟨u,hu⟩:=hc (j*6+1) (by omega);have hfu:=hf (j*6+1);have q7:=q 7;have hgk:=HGK.out (by omega) g rfl;have HBG:=qq hBg;clear hreg hc q hf hBg;go_wp2_with fail
                 all_goals (go_roundw<;>first | exact⟨j+1,by omega,by go_num,qq (HR2.out.set _ _ _),qq (HK.out.other (p:=⟨g,_,none⟩) hgk _),qq (HB2.out.setCell HBG.out _)⟩ | (simp[intOf];omega))
               · obtain rfl:j=vn:=by omega
                 have q7:=q 7;clear q;go_wp2_with fail
                 all_goals (go_roundw<;>first | exact⟨k+1,by omega,by go_num,qq (row_be HP.out HB2.out),qq (below_then HB.out HB2.out)⟩ | (simp[intOf];omega))
           · obtain rfl:m=k:=by omega
             have HSM:=qq (same15_of L R S wr (H4.out.below HB.out) (HR4.out.below HB.out) HGS.out);go_wp2_with fail;refine HSM.out.mono ?_;rintro e w20 ⟨rfl,hb20⟩;go_wp2_with fail;go_ret;exact⟨rfl,below_then HBW.out (below_then HB.out hb20)⟩
open Go.ChangeShapes Go.WideShapes Go.ChangeAt Go.WideMaps Go.WideElems Go.RowKit Go.Joins
theorem trod_f64 {H:Type} {P:Program} {w:World} {t:TypeId} {fuel:Nat} {base:Nat} {enc:TypeId×Value→H} {spare:Nat→Bool} {held:Bool} {v:Value} {x:DataW H×List MemPlace} (ht:P.underlying t=some (.float .f64)) (h:DataW.trod enc P w base spare held fuel t [v]=some x):∃b,v=.float .f64 b∧F64 b:=by
 cases fuel with
 | zero=>simp[DataW.trod] at h
 | succ n=>
  unfold DataW.trod at h;rw[ht] at h;split at h<;>simp_all
  rename_i k k' b he
  subst he;simpa[Lit.wf,F64] using h.1.2
open Go.RowKit Go.Deep Go.ChangeShapes Go.WideShapes Go.ChangeAt Go.WideMaps Go.WideElems
theorem fact_list_of {α:Type} {C:Nat→α→Prop}:∀n,(∀i,i<n→∃o,C i o)→∃l:List α,l.length=n∧∀i (h:i<l.length),C i l[i]
 | 0,_=>⟨[],rfl,fun i h=>absurd h (by simp)⟩
 | n+1,h=>by
  obtain⟨l,hl,hc⟩:=fact_list_of n (fun i hi=>h i (by omega));obtain⟨o,ho⟩:=h n (by omega);refine⟨l ++ [o],by simp[hl],fun i hi=> ?_⟩;by_cases hlt:i<l.length
  · rw[List.getElem_append_left hlt];exact hc i hlt
  · have:i=n:=by simp at hi;omega
    subst this;rw[List.getElem_append_right (by omega)];simpa[hl] using ho
theorem open_facts {H:Type} {enc:TypeId×Value→H} {W:World} {a0:Option Addr} {len cap:Nat} {d:DataW H} {p:List MemPlace} {sp:Nat→Bool} (h:DataW.Trod enc Tryz.prog W 0 sp true 22 (.slice a0 len cap) d p):∃fs,ReadFacts W (.slice a0 len cap) fs∧∀f∈fs,F64 f.ex:=by
 obtain⟨fuel,hf⟩:=h;rcases open_slice Tryz.underlying22 hf with⟨hcs,hx⟩ | ⟨a,len',cap',m,n,D,Pl,hcs,hb,hl,hm,hmm,hx,hall⟩
 · simp[Value.cells] at hcs;obtain⟨rfl,rfl,rfl⟩:=hcs;exact⟨[],⟨none,0,rfl,fun h=>absurd rfl h⟩,by simp⟩
 · simp[Value.cells] at hcs;obtain⟨rfl,rfl,rfl⟩:=hcs;have hlm:len≤m:=by rw[hmm];split<;>omega
   have each:∀i,i<len→∃o:SFact,W.cell? (a.add (i*14))=some (.int .i64 o.k)∧W.cell? (a.add (i*14+1))=some (.int .i64 o.an)∧W.cell? (a.add (i*14+2))=some (.int .i64 o.aq)∧W.cell? (a.add (i*14+3))=some (.int .i64 o.rg)∧W.cell? (a.add (i*14+4))=some (.int .i64 o.nd)∧W.cell? (a.add (i*14+5))=some (.int .i64 o.pt)∧W.cell? (a.add (i*14+6))=some (.int .i64 o.pr)∧W.cell? (a.add (i*14+7))=some (.int .i64 o.oc)∧W.cell? (a.add (i*14+8))=some (.int .i64 o.dp)∧W.cell? (a.add (i*14+9))=some (.int .i64 o.pa)∧W.cell? (a.add (i*14+10))=some (.int .i64 o.st)∧W.cell? (a.add (i*14+11))=some (.int .i64 o.hw)∧W.cell? (a.add (i*14+12))=some (.int .i64 o.de)∧W.cell? (a.add (i*14+13))=some (.float .f64 o.ex)∧F64 o.ex:=by
    intro i hi;obtain⟨cs',h1,h2⟩:=hall i (by omega);rw[show Tryz.prog.cellsOf 39=14 by kernel_rfl] at h1;obtain⟨_,hlen,hcell⟩:=World.cells?_some h1;obtain⟨xs,k,hk,hxy,_,hxl,hfs⟩:=DataW.trod_struct Tryz.underlying39 h2
    match xs,hxl,cs',hlen with
    | [y0,y1,y2,y3,y4,y5,y6,y7,y8,y9,y10,y11,y12],_,[v0,v1,v2,v3,v4,v5,v6,v7,v8,v9,v10,v11,v12,v13],_=>
     have g0:=hfs 0 _ rfl;have g1:=hfs 1 _ rfl;have g2:=hfs 2 _ rfl;have g3:=hfs 3 _ rfl;have g4:=hfs 4 _ rfl;have g5:=hfs 5 _ rfl;have g6:=hfs 6 _ rfl;have g7:=hfs 7 _ rfl;have g8:=hfs 8 _ rfl;have g9:=hfs 9 _ rfl;have g10:=hfs 10 _ rfl;have g11:=hfs 11 _ rfl;have g12:=hfs 12 _ rfl
     simp[show Tryz.prog.cellsOf 3=1 by kernel_rfl,show Tryz.prog.cellsOf 37=1 by kernel_rfl,show Tryz.prog.cellsOf 36=2 by kernel_rfl] at g0 g1 g2 g3 g4 g5 g6 g7 g8 g9 g10 g11 g12;obtain⟨zs,k2,hk2,_,_,hzl,hgs⟩:=DataW.trod_struct Tryz.underlying36 g1
     match zs,hzl with
     | [z0,z1],_=>
      have ga:=hgs 0 _ rfl;have gb:=hgs 1 _ rfl;simp[show Tryz.prog.cellsOf 3=1 by kernel_rfl] at ga gb;obtain⟨n0,e0,_⟩:=DataW.trod_int Tryz.underlying3 g0;obtain⟨n1,e1,_⟩:=DataW.trod_int Tryz.underlying3 ga;obtain⟨n2,e2,_⟩:=DataW.trod_int Tryz.underlying3 gb;obtain⟨n3,e3,_⟩:=DataW.trod_int Tryz.underlying3 g2;obtain⟨n4,e4,_⟩:=DataW.trod_int Tryz.underlying3 g3
      obtain⟨n5,e5,_⟩:=DataW.trod_int Tryz.underlying3 g4;obtain⟨n6,e6,_⟩:=DataW.trod_int Tryz.underlying3 g5;obtain⟨n7,e7,_⟩:=DataW.trod_int Tryz.underlying3 g6;obtain⟨n8,e8,_⟩:=DataW.trod_int Tryz.underlying3 g7;obtain⟨n9,e9,_⟩:=DataW.trod_int Tryz.underlying3 g8;obtain⟨n10,e10,_⟩:=DataW.trod_int Tryz.underlying3 g9;obtain⟨n11,e11,_⟩:=DataW.trod_int Tryz.underlying3 g10
      obtain⟨n12,e12,_⟩:=DataW.trod_int Tryz.underlying3 g11;obtain⟨n13,e13,hf13⟩:=trod_f64 Tryz.underlying37 g12;simp only[List.cons.injEq,and_true] at e0;simp only[List.cons.injEq,and_true] at e1;simp only[List.cons.injEq,and_true] at e2;simp only[List.cons.injEq,and_true] at e3;simp only[List.cons.injEq,and_true] at e4;simp only[List.cons.injEq,and_true] at e5
      simp only[List.cons.injEq,and_true] at e6;simp only[List.cons.injEq,and_true] at e7;simp only[List.cons.injEq,and_true] at e8;simp only[List.cons.injEq,and_true] at e9;simp only[List.cons.injEq,and_true] at e10;simp only[List.cons.injEq,and_true] at e11;simp only[List.cons.injEq,and_true] at e12
      (try simp only[List.cons.injEq,and_true] at e13)
      subst e0 e1 e2 e3 e4 e5 e6 e7 e8 e9 e10 e11 e12 e13;have c0:=hcell 0 (by omega);have c1:=hcell 1 (by omega);have c2:=hcell 2 (by omega);have c3:=hcell 3 (by omega);have c4:=hcell 4 (by omega);have c5:=hcell 5 (by omega);have c6:=hcell 6 (by omega);have c7:=hcell 7 (by omega);have c8:=hcell 8 (by omega);have c9:=hcell 9 (by omega);have c10:=hcell 10 (by omega);have c11:=hcell 11 (by omega)
      have c12:=hcell 12 (by omega);have c13:=hcell 13 (by omega);rw[add_add] at c0 c1 c2 c3 c4 c5 c6 c7 c8 c9 c10 c11 c12 c13
      exact⟨⟨n0,n1,n2,n3,n4,n5,n6,n7,n8,n9,n10,n11,n12,n13⟩,by simpa using c0,by simpa using c1,by simpa using c2,by simpa using c3,by simpa using c4,by simpa using c5,by simpa using c6,by simpa using c7,by simpa using c8,by simpa using c9,by simpa using c10,by simpa using c11,by simpa using c12,by simpa using c13,hf13⟩
   obtain⟨fs,hlen,hc⟩:=fact_list_of len each;subst hlen;refine⟨fs,⟨some a,cap,rfl,fun hne=> ?_⟩,fun f hf=> ?_⟩
   · have h0:0<fs.length:=List.length_pos_iff.2 hne;have hs0:a.spot=none:=by simpa[Addr.add] using World.cell?_spot (hc 0 h0).1
     obtain⟨b,off,spot⟩:=a;have hsp:spot=none:=hs0;subst hsp;have hlt:=World.block_lt_of_cell? W _ (hc 0 h0).1;refine⟨b,off,rfl,by simpa[Addr.add] using hlt,fun i hi=> ?_⟩;obtain⟨c0,c1,c2,c3,c4,c5,c6,c7,c8,c9,c10,c11,c12,c13,_⟩:=hc i hi;simp only[Addr.add_lit] at c0 c1 c2 c3 c4 c5 c6 c7 c8 c9 c10 c11 c12 c13;exact⟨c0,c1,c2,c3,c4,c5,c6,c7,c8,c9,c10,c11,c12,c13⟩
   · obtain⟨j,hj,rfl⟩:=List.getElem_of_mem hf;exact(hc j hj).2.2.2.2.2.2.2.2.2.2.2.2.2.2
open Go.ChangeShapes Go.WideShapes Go.ChangeAt Go.WideMaps Go.WideElems Go.RowKit
theorem Tryz.own:ownKnob Tryz.prog.godebug=none:=by kernel_rfl
theorem Tryz.laidOut:laidOutB Tryz.prog=true:=by kernel_rfl
theorem starE : "*" ++ "errors.errorString" = "*errors.errorString" := by decide
theorem rowE (u : TypeId) (h : Tryz.prog.typeName? 3 u = some "*errors.errorString") : u = 387 :=
 typeName_ptr_named (nm := "errors.errorString") (by rw [starE]; kernel_rfl) (by kernel_rfl) (by decide) u (by rw [starE]; exact h)
theorem cellsE:Tryz.prog.cellsOf 410=1:=by kernel_rfl
theorem cellsS:Tryz.prog.cellsOf 9=1:=by kernel_rfl
structure LaidE where
 num:Int
 name:String
 g:Nat
 text:List UInt8
def LaidE.datum (x : LaidE) : String × DataW Unit := (x.name, .iface "*errors.errorString" (.ptr (.agg [.lit (.string x.text)])))
def LaidE.ok (x:LaidE):Prop:=Tryz.prog.globalNamed x.name=some x.g∧(Tryz.prog.globals[x.g]?).map (·.type)=some 26
theorem sentinels {W : World} : ∀ (L : List LaidE) (ps : List MemPlace), (L.map (·.num)).Nodup → (∀ x ∈ L, x.ok) → DataW.LaidVars Tryz.prog W (L.map LaidE.datum) ps → ps.Nodup →
    (∀b off,MemPlace.cell b off∈ps→(∃c t,W.heap[b]? =some (.cells c t (0,0)))∧∀u v,W.cell? ⟨b,off,none⟩=some (.iface u v)→Value.okWide Tryz.prog W .any 0 u v)→
    ∃ea:Int→Addr,(∀x∈L,ErrIs W x.g (ea x.num)∧MemPlace.cell (ea x.num).block (ea x.num).off∈ps)∧(∀x∈L,∀y∈L,ea x.num=ea y.num→x.num=y.num):=by
 intro L
 induction L with
 | nil=>intro ps _ _ _ _ _;exact⟨fun _=>⟨0,0,none⟩,fun x hx=>by simp at hx,fun x hx=>by simp at hx⟩
 | cons x L ih=>
  intro ps hnum hok h hnd hrows;obtain⟨g0,t0,cs0,f0,p0,q0,hg0,ht0,hv0,hd0,hrest,e0⟩:=h;have hx:=hok x (by simp);obtain rfl:=Option.some.inj (hx.1.symm.trans hg0);obtain rfl:=Option.some.inj (hx.2.symm.trans ht0);subst e0;obtain⟨l0⟩:=cs0;have ok0:∀u v,l0=[.iface u v]→Value.okWide Tryz.prog W .any 0 u v:=fun u v e=>by
   subst e;exact(hrows x.g 0 (by simp[MemPlace.row])).2 u v (by simpa using World.var?_cell hg0 hv0 0)
  obtain⟨a0,s0,rfl,hc0,hs0,hz0,rfl⟩:=errorString_of_trod Tryz.underlying26 rowE Tryz.underlying387 Tryz.underlying410 rfl rfl Tryz.underlying9 cellsE cellsS hd0 ok0;have hn2:=List.nodup_append.1 hnd;obtain⟨ea,h1,h2⟩:=ih q0 (by simpa using(List.nodup_cons.1 hnum).2) (fun y hy=>hok y (by simp[hy])) hrest hn2.2.1 (fun b off hb=>hrows b off (by simp[hb]))
  have hne:∀y∈L,y.num≠x.num:=fun y hy he=>(List.nodup_cons.1 hnum).1 (by
    have:=List.mem_map_of_mem (f:=LaidE.num) hy;rw[he] at this;exact this)
  have hin:MemPlace.cell a0.block a0.off∈MemPlace.row ⟨x.g,0,none⟩ #[Value.iface 387 (.pointer (some a0))].size ++MemPlace.row a0 1:=by simp[MemPlace.row]
  have hcx:ErrIs W x.g a0:=by
   have:=World.var?_cell hg0 hv0 0;simpa[ErrIs] using this
  refine⟨fun m=>if m=x.num then a0 else ea m,fun y hy=> ?_,fun y hy z hz he=> ?_⟩
  · rcases List.mem_cons.1 hy with e | hy'
    · subst e;simp only[if_true];exact⟨hcx,List.mem_append_left _ hin⟩
    · simp only[if_neg (hne y hy')];exact⟨(h1 y hy').1,List.mem_append_right _ (h1 y hy').2⟩
  · rcases List.mem_cons.1 hy with e | hy'<;>rcases List.mem_cons.1 hz with e' | hz'
    · rw[e,e']
    · simp only[e,if_true,if_neg (hne z hz')] at he;have hz2:=(h1 z hz').2;rw[←he] at hz2;exact absurd rfl (hn2.2.2 _ hin _ hz2)
    · simp only[e',if_true,if_neg (hne y hy')] at he;have hy2:=(h1 y hy').2;rw[he] at hy2;exact absurd rfl (hn2.2.2 _ hin _ hy2)
    · simp only[if_neg (hne y hy'),if_neg (hne z hz')] at he;exact h2 y hy' z hz' he
section frame
variable {H:Type} {enc:TypeId×Value→H}
theorem trodAll_below {W W' : World} (hb : Below W.heap.size W W') : ∀ (ts : List TypeId) (vs : List Value) (ds : List (DataW H)) (ps : List MemPlace), (∀ t ∈ ts, Tryz.prog.readableRec t = true ∧ t < Tryz.prog.types.size) →
    DataW.TrodAll enc Tryz.prog W 0 (fun _=>true) true ts vs ds ps→(∀x∈ps,x.block<W.heap.size)→DataW.TrodAll enc Tryz.prog W' 0 (fun b=>decide (b<W.heap.size)) true ts vs ds ps:=by
 intro ts
 induction ts with
 | nil=>
  intro vs ds ps _ h _;obtain⟨rfl,rfl,rfl⟩:=trodAll_nil h;exact trodAll_mk0
 | cons t ts ih=>
  intro vs ds ps hts h hlt;obtain⟨v,vs',d,ds',p,q,rfl,rfl,rfl,hd,hrest⟩:=trodAll_cons h;have h1:=Below.trod Tryz.laidOut (hts t (by simp)).1 (hts t (by simp)).2 hd hb (fun x hx=>hlt x (by simp[hx]));exact trodAll_cons_mk h1 (ih vs' ds' q (fun u hu=>hts u (by simp[hu])) hrest (fun x hx=>hlt x (by simp[hx])))
theorem trodAll_len {W:World} {base:Nat} {sp:Nat→Bool} {held:Bool}:∀{ts:List TypeId} {vs:List Value} {ds:List (DataW H)} {ps:List MemPlace},DataW.TrodAll enc Tryz.prog W base sp held ts vs ds ps→ds.length=ts.length:=by
 intro ts
 induction ts with
 | nil=>
  intro vs ds ps h;obtain⟨rfl,rfl,rfl⟩:=trodAll_nil h;rfl
 | cons t ts ih=>
  intro vs ds ps h;obtain⟨v,vs',d,ds',p,q,rfl,rfl,rfl,hd,hrest⟩:=trodAll_cons h;simp[ih hrest]
theorem frame_post {fn : Func} {s : ChangeSpec} {W W' : World} {args : Array Value} {ds gs : List (DataW H)} {before : List MemPlace}
    (hts:∀t∈fn.params.toList,Tryz.prog.readableRec t=true∧t<Tryz.prog.types.size) (hres:fn.resultTypes= #[4]) (hvars:s.vars=[])
    (hspec:∀ds:List (DataW H),ds.length=fn.params.toList.length→(s.fn H ds).results=[.lit (.bool true)]∧(s.fn H ds).args=ds∧(s.fn H ds).vars=[])
    (hW:DataW.Whole enc Tryz.prog fn.params.toList s.vars false W args.toList ds gs before) (hb:Below W.heap.size W W'):
    s.post enc Tryz.prog fn false true false false W args (.bool true) W':=by
 have hW':=hW;have hlt:=hW.lt;obtain⟨p,q,hA,hV,rfl,hfz,hnd⟩:=hW;rw[hvars] at hV;obtain⟨rfl,rfl⟩:gs=[]∧q=[]:=by
  cases gs with
  | nil=>exact⟨rfl,hV⟩
  | cons g r=>exact absurd hV (by intro h;cases h)
 have hlen:ds.length=fn.params.toList.length:=trodAll_len hA;obtain⟨e1,e2,e3⟩:=hspec ds hlen;refine⟨ds,[],p ++ [],[],p,[],hW',?_,?_,?_,hb.frame _,fun h=>by cases h⟩
 · rw[List.append_nil,e1,hres];exact trodAll_mk1 (shut_bool Tryz.underlying4 true)
 · rw[List.append_nil,e2];exact trodAll_below hb _ _ _ _ hts hA (fun x hx=>hlt x (by simp[hx]))
 · rw[List.append_nil,e3,hvars];rfl
end frame
def err1 : LaidE := ⟨1, "liaison/api.ErrRange", 0, [108, 105, 97, 105, 115, 111, 110, 58, 32, 114, 97, 110, 103, 101]⟩
theorem ok_err1:err1.ok:=⟨by kernel_rfl,by kernel_rfl⟩
def err2 : LaidE := ⟨2, "liaison/api.ErrShort", 1, [108, 105, 97, 105, 115, 111, 110, 58, 32, 115, 104, 111, 114, 116]⟩
theorem ok_err2:err2.ok:=⟨by kernel_rfl,by kernel_rfl⟩
def err3 : LaidE := ⟨3, "liaison/api.ErrLong", 2, [108, 105, 97, 105, 115, 111, 110, 58, 32, 108, 111, 110, 103]⟩
theorem ok_err3:err3.ok:=⟨by kernel_rfl,by kernel_rfl⟩
def err4 : LaidE := ⟨4, "liaison/api.ErrForm", 3, [108, 105, 97, 105, 115, 111, 110, 58, 32, 102, 111, 114, 109]⟩
theorem ok_err4:err4.ok:=⟨by kernel_rfl,by kernel_rfl⟩
def err5 : LaidE := ⟨5, "liaison/api.ErrCheck", 4, [108, 105, 97, 105, 115, 111, 110, 58, 32, 99, 104, 101, 99, 107]⟩
theorem ok_err5:err5.ok:=⟨by kernel_rfl,by kernel_rfl⟩
def err6 : LaidE := ⟨6, "liaison/api.ErrFull", 5, [108, 105, 97, 105, 115, 111, 110, 58, 32, 102, 117, 108, 108]⟩
theorem ok_err6:err6.ok:=⟨by kernel_rfl,by kernel_rfl⟩
def err7 : LaidE := ⟨7, "liaison/api.ErrPower", 6, [108, 105, 97, 105, 115, 111, 110, 58, 32, 112, 111, 119, 101, 114]⟩
theorem ok_err7:err7.ok:=⟨by kernel_rfl,by kernel_rfl⟩
def err8 : LaidE := ⟨8, "liaison/api.ErrNone", 7, [108, 105, 97, 105, 115, 111, 110, 58, 32, 110, 111, 110, 101]⟩
theorem ok_err8:err8.ok:=⟨by kernel_rfl,by kernel_rfl⟩
def err9 : LaidE := ⟨9, "liaison/api.ErrState", 8, [108, 105, 97, 105, 115, 111, 110, 58, 32, 115, 116, 97, 116, 101]⟩
theorem ok_err9:err9.ok:=⟨by kernel_rfl,by kernel_rfl⟩
def err10 : LaidE := ⟨10, "liaison/api.ErrTwice", 9, [108, 105, 97, 105, 115, 111, 110, 58, 32, 116, 119, 105, 99, 101]⟩
theorem ok_err10:err10.ok:=⟨by kernel_rfl,by kernel_rfl⟩
def err11 : LaidE := ⟨11, "liaison/api.ErrDepth", 10, [108, 105, 97, 105, 115, 111, 110, 58, 32, 100, 101, 112, 116, 104]⟩
theorem ok_err11:err11.ok:=⟨by kernel_rfl,by kernel_rfl⟩
def err12 : LaidE := ⟨12, "liaison/api.ErrExpired", 11, [108, 105, 97, 105, 115, 111, 110, 58, 32, 101, 120, 112, 105, 114, 101, 100]⟩
theorem ok_err12:err12.ok:=⟨by kernel_rfl,by kernel_rfl⟩
def err13 : LaidE := ⟨13, "liaison/api.ErrPanic", 12, [108, 105, 97, 105, 115, 111, 110, 58, 32, 112, 97, 110, 105, 99]⟩
theorem ok_err13:err13.ok:=⟨by kernel_rfl,by kernel_rfl⟩
def err14 : LaidE := ⟨14, "liaison/api.ErrProtocol", 13, [108, 105, 97, 105, 115, 111, 110, 58, 32, 112, 114, 111, 116, 111, 99, 111, 108]⟩
theorem ok_err14:err14.ok:=⟨by kernel_rfl,by kernel_rfl⟩
def errs14:List LaidE:=[err1,err2,err3,err4,err5,err6,err7,err8,err9,err10,err11,err12,err13,err14]
theorem num14 (i:Int) (h1:1≤i) (h2:i≤14):∃x∈errs14,x.num=i:=by
 obtain⟨n,rfl⟩:=nat14 ⟨h1,h2⟩;have h0:n≠0:=fun h=>by rw[h] at h1;exact absurd h1 (by decide)
 revert n;decide
theorem ok14:∀x∈errs14,x.ok:=by
 intro x hx;simp only[errs14,List.mem_cons,List.not_mem_nil,or_false] at hx;rcases hx with rfl | rfl | rfl | rfl | rfl | rfl | rfl | rfl | rfl | rfl | rfl | rfl | rfl | rfl
 · exact ok_err1
 · exact ok_err2
 · exact ok_err3
 · exact ok_err4
 · exact ok_err5
 · exact ok_err6
 · exact ok_err7
 · exact ok_err8
 · exact ok_err9
 · exact ok_err10
 · exact ok_err11
 · exact ok_err12
 · exact ok_err13
 · exact ok_err14
theorem errs_of_laid {W:World} {l:List (String×DataW Unit)} (hl:l=errs14.map LaidE.datum) (h:laidMetH Tryz.prog l W):∃ea,Errs ea W:=by
 rw[MakeChecks.laidMetH_plain _ _ _ (by rw[hl];rfl)] at h;obtain⟨ps,h,hnd,hrows⟩:=h;rw[hl] at h;obtain⟨ea,h1,h2⟩:=sentinels errs14 ps (by decide) ok14 h hnd hrows;have hm:∀i:Int,1≤i→i≤14→∃x∈errs14,x.num=i:=num14
 refine⟨ea,(h1 err1 (by simp[errs14])).1,(h1 err2 (by simp[errs14])).1,(h1 err3 (by simp[errs14])).1,(h1 err4 (by simp[errs14])).1,(h1 err5 (by simp[errs14])).1,(h1 err6 (by simp[errs14])).1,(h1 err7 (by simp[errs14])).1,(h1 err8 (by simp[errs14])).1,(h1 err9 (by simp[errs14])).1,(h1 err10 (by simp[errs14])).1,(h1 err11 (by simp[errs14])).1,(h1 err12 (by simp[errs14])).1,(h1 err13 (by simp[errs14])).1,(h1 err14 (by simp[errs14])).1,?_,?_⟩
 · intro i j a b c d he;obtain⟨x,hx,rfl⟩:=hm i a b;obtain⟨y,hy,rfl⟩:=hm j c d;exact h2 x hx y hy he
 · intro i a b;obtain⟨x,hx,rfl⟩:=hm i a b;exact(hrows _ _ (h1 x hx).2).1
section wrap
variable {H:Type} {enc:TypeId×Value→H}
theorem handed_and_shaped {a : Assume} {C : Checked} {os : Os} {f : FuncId} {fn : Func} {s : ChangeSpec} {conds : List PathCond} {apart fresh handsOn again : Bool} {X : World → Array Value → Prop}
    (hX:∀(w w':World) (args:Array Value),w.heap=w'.heap→X w args→X w' args)
    (own:ownKnob C.prog.godebug=none) (started:os.Started) (noInit:C.prog.inits.idxOf? f=none) (hfn:C.prog.funcs[f]? =some fn)
    (witness:∃(w:World) (tape:Tape) (i:Input),w.os=os∧(w.forCall tape i).Shaped C.prog∧i.vars=[]∧Input.okWide C.prog (w.forCall tape i) .any w.heap.size f i∧
      ((s.pre enc C.prog fn conds apart (w.forCall tape i).memory i.args∧X (w.forCall tape i).memory i.args)∧sizedMet enc C.prog fn (OpenSpec.ofChange s) apart (w.forCall tape i).memory i.args)∧a.holds C.prog (lone (Frame.enter C.prog f i.args .normal) [] (w.forCall tape i)))
    (contract:∀(W:World) (base:Nat) (args:Array Value) (ds gs:List (DataW H)) (before:List MemPlace),
      (∀(j:Nat) t v,fn.params[j]? =some t→args[j]? =some v→Value.okWide C.prog W .any base t v)→
      DataW.Whole enc C.prog fn.params.toList s.vars apart W args.toList ds gs before→
      conds.all (PathCond.test C.prog ⟨fn.params.toList,ds,s.plain.varTypes C.prog,gs⟩)=true→
      (DataW.weightsEach C.prog (fn.params.toList ++s.plain.varTypes C.prog) (ds ++gs)).all (·≤reachBytes)=true→X W args→W.ShapedOpen C.prog→
      a.holds C.prog (lone (Frame.enter C.prog f args .normal) [] W)→
      Calls C.prog f args W fun e W'=>∃v,e=.returned v∧s.post enc C.prog fn apart fresh handsOn again W args v W'):
    ReturnsInHanded a C os f .any (fun w args=>(s.pre enc C.prog fn conds apart w args∧X w args)∧sizedMet enc C.prog fn (OpenSpec.ofChange s) apart w args) (s.post enc C.prog fn apart fresh handsOn again):=by
 refine returnsInHanded_of_calls own started noInit witness ?_;intro w tape i _ hsh _ hok hpre hholds;obtain⟨_,_,_,fn',hfn',_,_,_,_,hval⟩:=hok;have e:fn'=fn:=Option.some.inj (hfn'.symm.trans hfn);subst e;obtain⟨⟨⟨ds,gs,before,hw,hc⟩,hx⟩,hz⟩:=hpre;have hw':=DataW.Whole.of_heap (w':=w.forCall tape i) (by rfl) hw
 refine(contract (w.forCall tape i) w.heap.size i.args ds gs before hval hw' hc (hz.weights hw) (hX _ _ _ (by rfl) hx) hsh hholds).mono fun e W' ⟨v,he,hp⟩=> ?_
 subst he;exact ChangeSpec.post_blind hp
end wrap
theorem laidVars_parts {P:Program} {W:World}:∀(A B:List (String×DataW Unit)) (ps:List MemPlace),DataW.LaidVars P W (A ++B) ps→∃p q,ps=p ++q∧DataW.LaidVars P W A p∧DataW.LaidVars P W B q
 | [],_,ps,h=>⟨[],ps,rfl,rfl,h⟩
 | (n,d)::A,B,ps,h=>by
  obtain⟨g0,t0,cs0,f0,p0,q0,hg0,ht0,hv0,hd0,hrest,e0⟩:=h;obtain⟨p,q,rfl,h1,h2⟩:=laidVars_parts A B q0 hrest;exact⟨MemPlace.row ⟨g0,0,none⟩ cs0.size ++p0 ++p,q,by rw[e0];simp[List.append_assoc],⟨g0,t0,cs0,f0,p0,p,hg0,ht0,hv0,hd0,h1,rfl⟩,h2⟩
theorem laidMet_parts {P:Program} {W:World} {A B:List (String×DataW Unit)} (h:laidMet P (A ++B) W):laidMet P A W∧laidMet P B W:=by
 obtain⟨ps,h,hnd,hrows⟩:=h;obtain⟨p,q,rfl,h1,h2⟩:=laidVars_parts A B ps h;have hn:=List.nodup_append.1 hnd;exact⟨⟨p,h1,hn.1,fun b off hb=>hrows b off (List.mem_append_left _ hb)⟩,⟨q,h2,hn.2.1,fun b off hb=>hrows b off (List.mem_append_right _ hb)⟩⟩
theorem pow10_dataS:(Lib.tabData .u64 Lib.pow10Tab:DataW Unit)=Rows.laid_internal_strconv_uint64pow10:=by kernel_rfl
theorem errsS_of_met {W:World} (h:laidMet Tryz.prog (errs14.map LaidE.datum) W):∃ea,Errs ea W:=
 errs_of_laid rfl (by rw[MakeChecks.laidMetH_plain _ _ _ (by rfl)];exact h)
theorem envS_of_laid {W : World} {A : List (String × DataW Unit)} {B : List (String × DataW Unit)} {l : List (String × DataW Unit)}
    (hl : l = A ++ (("internal/strconv.uint64pow10", Lib.tabData .u64 Lib.pow10Tab) :: B) ∧ ∃ D, B = errs14.map LaidE.datum ++ D) (hp : (l.all fun x => x.2.handleName?.isNone) = true) (h : laidMetH Tryz.prog l W) : ∃ ea, EnvS ea W := by
 rw[MakeChecks.laidMetH_plain _ _ _ hp] at h;obtain⟨rfl,D,rfl⟩:=hl;have h2:=(laidMet_parts h).2
 have h3 := (laidMet_parts (A := [("internal/strconv.uint64pow10", Lib.tabData .u64 Lib.pow10Tab)]) (B := errs14.map LaidE.datum ++ D) h2).2
 have h4:=(laidMet_parts h3).1;obtain⟨ea,he⟩:=errsS_of_met h4;exact⟨ea,he,Lib.tabIs_of_head (g:=15) (t:=380) (e:=202) (n:=20) (by kernel_rfl) (by kernel_rfl) Tryz.underlying380 Tryz.underlying202 (by kernel_rfl) (by kernel_rfl) h2⟩
theorem storeApart_laid {l:List (String×DataW Unit)} (hl:l=Rows.storeApartRow.laid) {W:World} (h:laidMetH Tryz.prog l W):∃ea,EnvS ea W:=by
 subst hl;exact envS_of_laid (A:=Rows.storeApartRow.laid.take 2) (B:=Rows.storeApartRow.laid.drop 3) ⟨by rw[pow10_dataS];rfl,Rows.storeApartRow.laid.drop 17,rfl⟩ (by kernel_rfl) h
theorem storeApart_lifted (os : Os) (started : os.Started) (H : Type) (enc : TypeId × Value → H) :
    ReturnsInHanded {} Tryz.checked os 4 .any (fun w args=>(Rows.storeApartSpec.pre enc Tryz.prog Tryz.f4 [] false w args∧laidMetH Tryz.prog Rows.storeApartRow.laid w)∧sizedMet enc Tryz.prog Tryz.f4 (OpenSpec.ofChange Rows.storeApartSpec) false w args)
     (Rows.storeApartSpec.post enc Tryz.prog Tryz.f4 false true false false):=by
 refine handed_and_shaped (C:=Tryz.checked) (X:=fun w _=>laidMetH Tryz.prog Rows.storeApartRow.laid w) (fun _ _ _ hh h=>h.of_heap hh) Tryz.own started (by kernel_rfl) Tryz.func4
  (ChangeSpec.witness_shaped (enc:=enc) (C:=Tryz.checked) (os:=os) (X:=fun w _=>laidMetH Tryz.prog Rows.storeApartRow.laid w) false (World.laidAll Tryz.prog os Rows.storeApartRow.laid) #[.slice none 0 0] 8 (World.laidAll_os _ _ _) (World.shaped_of_ZipB (by kernel_rfl) (by kernel_rfl)) (by kernel_rfl) (by kernel_rfl) (by kernel_rfl)
    (by rw[MakeChecks.laidMetH_plain _ _ _ (by kernel_rfl)];exact laidMet_laidAll _ (by kernel_rfl) (by kernel_rfl))) ?_
 intro W base args ds gs before hval0 hW _ hsz hL hshape _;have hval:∀(j:Nat) t v,Tryz.f4.params[j]? =some t→args[j]? =some v→Value.okWide Tryz.prog W .any base t v:=hval0;have hpost:∀W',Below W.heap.size W W'→Rows.storeApartSpec.post enc Tryz.prog Tryz.f4 false true false false W args (.bool true) W':=fun W' hb=>
  frame_post (by rw[Tryz.params4];decide+kernel) rfl rfl (fun ds h=>by rw[Tryz.params4] at h;match ds,h with | [d0],_=>exact⟨rfl,rfl,rfl⟩) hW hb
 obtain⟨p,q,hA0,hV,rfl,hfz,hnd⟩:=hW;have hA:DataW.TrodAll enc Tryz.prog W 0 (fun _=>true) true Tryz.f4.params.toList args.toList ds p:=hA0;rw[Tryz.params4] at hA hval;obtain⟨v0,d0,rfl,rfl,h0⟩:=trodAll_one hA;obtain⟨a1,n1,c1,rfl⟩:=okWide_slice Tryz.underlying22 (hval 0 _ v0 rfl rfl);obtain⟨fs,hR,hF⟩:=open_facts h0;obtain⟨ea,hE⟩:=(storeApart_laid rfl hL)
 exact(law_sapart _ fs ea W hE hR hF).mono fun e W' ⟨he,hb⟩=>⟨_,he,hpost W' hb⟩
theorem js_laid:laidOutB Tryz.pinned.checked.prog=true:=by kernel_rfl
theorem js_maps:mapsRowed Tryz.pinned.checked.prog=true:=by kernel_rfl
theorem js_heard:Tryz.pinned.checked.prog.stopsHeard=true:=by kernel_rfl
theorem js_enter:Tryz.pinned.checked.prog.mayEnter=true:=by kernel_rfl
theorem js_plain:(Rows.partnerOnceRow.plainKeys==Tryz.pinned.checked.prog.plainKeys)=true:=by kernel_rfl
theorem js_lift:(Rows.partnerOnceRow.lifted==Tryz.pinned.checked.prog.liftsFinal)=true:=by kernel_rfl
theorem js_make:(Tryz.pinned.checked.prog.make==some Rows.partnerOnceRow.make)=true:=by kernel_rfl
theorem storeApart_joined:joinedFacts Tryz.pinned.checked.prog 4 Tryz.f4 Rows.storeApartSpec Rows.storeApartRow=true:=by
 unfold joinedFacts;simp only[Bool.and_eq_true]
 repeat' apply And.intro
 · as_aux_lemma=>kernel_rfl
 · exact js_laid
 · exact js_maps
 · as_aux_lemma=>kernel_rfl
 · as_aux_lemma=>kernel_rfl
 · as_aux_lemma=>kernel_rfl
 · as_aux_lemma=>kernel_rfl
 · as_aux_lemma=>kernel_rfl
 · as_aux_lemma=>kernel_rfl
 · as_aux_lemma=>kernel_rfl
 · as_aux_lemma=>kernel_rfl
 · as_aux_lemma=>kernel_rfl
 · as_aux_lemma=>kernel_rfl
 · as_aux_lemma=>kernel_rfl
 · as_aux_lemma=>kernel_rfl
 · as_aux_lemma=>kernel_rfl
 · as_aux_lemma=>kernel_rfl
 · as_aux_lemma=>kernel_rfl
 · as_aux_lemma=>kernel_rfl
 · as_aux_lemma=>kernel_rfl
 · as_aux_lemma=>kernel_rfl
 · as_aux_lemma=>kernel_rfl
 · exact js_plain
 · as_aux_lemma=>kernel_rfl
 · exact js_heard
 · exact js_enter
 · exact js_lift
 · exact js_make
 · as_aux_lemma=>kernel_rfl
 · as_aux_lemma=>kernel_rfl
 · as_aux_lemma=>kernel_rfl
 · as_aux_lemma=>kernel_rfl
end Go.Proofs.YtlkajejbfojkeaaGreatDoor
