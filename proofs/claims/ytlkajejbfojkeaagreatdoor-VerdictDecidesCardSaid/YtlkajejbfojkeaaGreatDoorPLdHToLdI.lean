/- LdH, VdB, VdC, DoB, DlA, DlB, VdE, VgA, VgB, VgC, LdI -/
import Derived.Test.YtlkajejbfojkeaaGreatDoorPVdAToLdB
set_option linter.unusedSimpArgs false
set_option linter.unusedVariables false
set_option maxRecDepth 100000
set_option maxHeartbeats 16000000
namespace Go.Proofs.YtlkajejbfojkeaaGreatDoor
open Go.RowKit
attribute [local go_sem] store_float
def lMessage (S:Sto) (n q rg k:Int):SMsg×Bool:=match lGet S n q with
 | none=>(msg0,false)
 | some (_,a)=>match lReg a rg with
  | none=>(msg0,false)
  | some r=>(lMsg S a r rg k,true)
theorem lmessage_none (L:SLoc) (S:Sto) (na qa rg k:Int) (w:World) (h:StoreAt L S w) (hG:StoGood S) (hg:lGet S na qa=none):Calls Tryz.prog 73 #[.pointer (some ⟨L.sb,0,none⟩),.agg #[na,qa],.int .i64 rg,.int .i64 k] w (Makes (.tuple #[.agg #[.int .i64 0,.int .i64 0,.int .i64 0,.int .i64 0,.int .i64 0,.int .i64 0,.int .i64 0,.int .i64 0,.int .i64 0],.bool false]) w):=by
 have H:=qq h;have HF:=qq (fun W hW=>lfind_none L S na qa rg W hW hG hg);clear h hG hg;go_enter Tryz.func73,Tryz.ntmps73;go_wp2_with fail;refine(HF.out _ (H.out.below (bel_alloc (bel_alloc (Below.refl w.heap.size w) _) _))).mono ?_;rintro e w1 ⟨rfl,hb1⟩;have TK2:=qq (hp_be (hp_new (w.heap.size+1) (by simp)) hb1);have K1:=qq (((Blk.fresh _ _ _ (w.heap.size) (by simp)).alloc _).below hb1)
 have K2:=qq ((Blk.fresh _ _ _ (w.heap.size+1) (by simp)).below hb1);have HB:=qq (below_then (bel_alloc (bel_alloc (Below.refl w.heap.size w) _) _) hb1);have z1:=HB.out.size;clear hb1;have o3K1:=K1.out.lt;have o3K2:=K2.out.lt;obtain⟨lK1,qK1,fK1⟩:=K1.out;obtain⟨lK2,qK2,fK2⟩:=K2.out
 have hT:=(hp_al TK2.out (.cells #[.int .i64 0,.int .i64 0,.int .i64 0,.int .i64 0,.int .i64 0,.int .i64 0,.int .i64 0,.int .i64 0,.int .i64 0,.int .i64 0,.float .f64 0,.int .i64 0,.int .i64 0,.slice none 0 0,.int .i64 0,.int .i64 0] 247))
 go_wp2_with (refine row_go 81 (.tmp 8) (.tmp 23) rfl rfl (w.heap.size+1) #[.int .i64 0,.int .i64 0,.int .i64 0,.int .i64 0,.int .i64 0,.int .i64 0,.int .i64 0,.int .i64 0,.int .i64 0] #[.int .i64 0,.int .i64 0,.int .i64 0,.int .i64 0,.int .i64 0,.int .i64 0,.int .i64 0,.int .i64 0,.int .i64 0] 81 hT rfl rfl (by kernel_rfl) rfl (by simp[Value.oneCell']) ?_);clear hT;clear qK1 fK1 lK1 qK2 fK2 lK2
 intro w2 hK hg;have K2:=qq hK;have HB:=qq (bel_gr (bel_alloc HB.out _) hg (by omega));clear hK hg;have z2:=HB.out.size;obtain⟨lK2,qK2,fK2⟩:=K2.out;go_wp2_with fail;refine bodyPost_ret (v:=.tuple #[.agg #[.int .i64 0,.int .i64 0,.int .i64 0,.int .i64 0,.int .i64 0,.int .i64 0,.int .i64 0,.int .i64 0,.int .i64 0],.bool false]) (by simp[results,Tryz.results73,go_sem,qK2,fK2]) rfl ?_
 clear qK2 fK2 lK2;exact⟨rfl,HB.out⟩
theorem lmessage_noreg (L:SLoc) (S:Sto) (na qa rg k:Int) (w:World) (h:StoreAt L S w) (hG:StoGood S) (i:Nat) (a:SAct) (hg:lGet S na qa=some (i,a)) (hr:lReg a rg=none):Calls Tryz.prog 73 #[.pointer (some ⟨L.sb,0,none⟩),.agg #[na,qa],.int .i64 rg,.int .i64 k] w (Makes (.tuple #[.agg #[.int .i64 0,.int .i64 0,.int .i64 0,.int .i64 0,.int .i64 0,.int .i64 0,.int .i64 0,.int .i64 0,.int .i64 0],.bool false]) w):=by
 have H:=qq h;have HF:=qq (fun W hW=>lfind_noreg L S na qa rg i a W hW hG hg hr);clear h hG hg hr;go_enter Tryz.func73,Tryz.ntmps73;go_wp2_with fail;refine(HF.out _ (H.out.below (bel_alloc (bel_alloc (Below.refl w.heap.size w) _) _))).mono ?_;rintro e w1 ⟨rfl,hb1⟩;have TK2:=qq (hp_be (hp_new (w.heap.size+1) (by simp)) hb1);have K1:=qq (((Blk.fresh _ _ _ (w.heap.size) (by simp)).alloc _).below hb1)
 have K2:=qq ((Blk.fresh _ _ _ (w.heap.size+1) (by simp)).below hb1);have HB:=qq (below_then (bel_alloc (bel_alloc (Below.refl w.heap.size w) _) _) hb1);have z1:=HB.out.size;clear hb1;have o3K1:=K1.out.lt;have o3K2:=K2.out.lt;obtain⟨lK1,qK1,fK1⟩:=K1.out;obtain⟨lK2,qK2,fK2⟩:=K2.out
 have hT:=(hp_al TK2.out (.cells #[.int .i64 0,.int .i64 0,.int .i64 0,.int .i64 0,.int .i64 0,.int .i64 0,.int .i64 0,.int .i64 0,.int .i64 0,.int .i64 0,.float .f64 0,.int .i64 0,.int .i64 0,.slice none 0 0,.int .i64 0,.int .i64 0] 247))
 go_wp2_with (refine row_go 81 (.tmp 8) (.tmp 23) rfl rfl (w.heap.size+1) #[.int .i64 0,.int .i64 0,.int .i64 0,.int .i64 0,.int .i64 0,.int .i64 0,.int .i64 0,.int .i64 0,.int .i64 0] #[.int .i64 0,.int .i64 0,.int .i64 0,.int .i64 0,.int .i64 0,.int .i64 0,.int .i64 0,.int .i64 0,.int .i64 0] 81 hT rfl rfl (by kernel_rfl) rfl (by simp[Value.oneCell']) ?_);clear hT;clear qK1 fK1 lK1 qK2 fK2 lK2
 intro w2 hK hg;have K2:=qq hK;have HB:=qq (bel_gr (bel_alloc HB.out _) hg (by omega));clear hK hg;have z2:=HB.out.size;obtain⟨lK2,qK2,fK2⟩:=K2.out;go_wp2_with fail;refine bodyPost_ret (v:=.tuple #[.agg #[.int .i64 0,.int .i64 0,.int .i64 0,.int .i64 0,.int .i64 0,.int .i64 0,.int .i64 0,.int .i64 0,.int .i64 0],.bool false]) (by simp[results,Tryz.results73,go_sem,qK2,fK2]) rfl ?_
 clear qK2 fK2 lK2;exact⟨rfl,HB.out⟩
theorem lmessage_yes (L:SLoc) (S:Sto) (na qa rg k:Int) (w:World) (h:StoreAt L S w) (hG:StoGood S) (i:Nat) (a:SAct) (hg:lGet S na qa=some (i,a)) (r:SReg) (hr:lReg a rg=some r):Calls Tryz.prog 73 #[.pointer (some ⟨L.sb,0,none⟩),.agg #[na,qa],.int .i64 rg,.int .i64 k] w (Makes (.tuple #[msgV (lMsg S a r rg k),.bool true]) w):=by
 have H:=qq h;have HF:=qq (fun W hW=>lfind_yes L S na qa rg i a r W hW hG hg hr);unfold lMsg;obtain⟨an,aq,oc,dp,ex,pa,de,rs⟩:=a;obtain⟨rn,rp,⟨sp,sd,ss,sh⟩⟩:=r;unfold SeatOut at HF;dsimp only at*;clear h hG hg hr;go_enter Tryz.func73,Tryz.ntmps73;go_wp2_with fail;refine(HF.out _ (H.out.below (bel_alloc (bel_alloc (Below.refl w.heap.size w) _) _))).mono ?_;rintro e w1 ⟨va,vn,vc,rfl,hb1⟩
 have TK2:=qq (hp_be (hp_new (w.heap.size+1) (by simp)) hb1);have K1:=qq (((Blk.fresh _ _ _ (w.heap.size) (by simp)).alloc _).below hb1);have K2:=qq ((Blk.fresh _ _ _ (w.heap.size+1) (by simp)).below hb1);have HB:=qq (below_then (bel_alloc (bel_alloc (Below.refl w.heap.size w) _) _) hb1);have z1:=HB.out.size;clear hb1;have o3K1:=K1.out.lt;have o3K2:=K2.out.lt;obtain⟨lK1,qK1,fK1⟩:=K1.out
 obtain⟨lK2,qK2,fK2⟩:=K2.out;go_wp2_with fail;clear qK1 fK1 lK1 qK2 fK2 lK2;refine(lmsg_of rn rp sp sd ss sh an aq oc dp ex pa de va vn vc S.node rg k _).mono ?_;rintro e w2 ⟨rfl,hb2⟩;have TK2:=qq (hp_be (hp_al TK2.out _) hb2);have K2:=qq ((K2.out.alloc _).below hb2);have K3:=qq ((Blk.fresh _ _ _ (w1.heap.size) (by simp)).below hb2);have HB:=qq (below_then (bel_alloc HB.out _) hb2)
 have z2:=HB.out.size;clear hb2
 (try dsimp only[msgV,msgA])
 obtain⟨lK2,qK2,fK2⟩:=K2.out;obtain⟨lK3,qK3,fK3⟩:=K3.out;have hT:=TK2.out
 go_wp2_with (refine row_go 81 (.tmp 8) (.tmp 26) rfl rfl (w.heap.size+1) #[.int .i64 k,.int .i64 S.node,.int .i64 rn,.int .i64 an,.int .i64 aq,.int .i64 rg,.int .i64 rp,.int .i64 0,.int .i64 0] #[.int .i64 0,.int .i64 0,.int .i64 0,.int .i64 0,.int .i64 0,.int .i64 0,.int .i64 0,.int .i64 0,.int .i64 0] 81 hT rfl rfl (by kernel_rfl) rfl (by simp[Value.oneCell']) ?_);clear hT
 clear qK2 fK2 lK2 qK3 fK3 lK3;intro w3 hK hg;have K2:=qq hK;have K3:=qq (K3.out.gr hg (by omega));have HB:=qq (bel_gr HB.out hg (by omega));clear hK hg;have z3:=HB.out.size;obtain⟨lK2,qK2,fK2⟩:=K2.out;obtain⟨lK3,qK3,fK3⟩:=K3.out;go_wp2_with fail
 refine bodyPost_ret (v:=.tuple #[.agg #[k,S.node,rn,an,aq,rg,rp,.int .i64 0,.int .i64 0],.bool true]) (by simp[results,Tryz.results73,go_sem,qK2,fK2]) rfl ?_;clear qK2 fK2 lK2 qK3 fK3 lK3;exact⟨rfl,HB.out⟩
theorem lmessage_of (L:SLoc) (S:Sto) (na qa rg k:Int) (w:World) (h:StoreAt L S w) (hG:StoGood S):Calls Tryz.prog 73 #[.pointer (some ⟨L.sb,0,none⟩),.agg #[na,qa],.int .i64 rg,.int .i64 k] w (Makes (.tuple #[msgV (lMessage S na qa rg k).1,.bool (lMessage S na qa rg k).2]) w):=by
 unfold lMessage
 cases hg:lGet S na qa with
 | none=>exact lmessage_none L S na qa rg k w h hG hg
 | some x=>
  obtain⟨i,a⟩:=x;dsimp only
  cases hr:lReg a rg with
  | none=>exact lmessage_noreg L S na qa rg k w h hG i a hg hr
  | some r=>exact lmessage_yes L S na qa rg k w h hG i a hg r hr
open Go.RowKit Go.Shelf
attribute [local go_sem] store_float Oper.semAt_some
def vF (a:SAct) (x:Nat×Int):SFact:=match a.regs[x.1]? with
 | none=>fSeat a.an a.aq x.1 0 0
 | some r=>fSeat a.an a.aq x.1 (mDo r.seat x.2).1.seat.s (mDo r.seat x.2).1.seat.h
def vM (S:Sto) (a:SAct) (x:Nat×Int):SMsg:=match a.regs[x.1]? with
 | none=>msg0
 | some r=>lMsg S a r x.1 x.2
def vFs (d:Int) (a:SAct):List SFact:=(vDirsN d a.regs a.regs.length).map (vF a)
def vMs (S:Sto) (d:Int) (a:SAct):List SMsg:=(vDirsN d a.regs a.regs.length).map (vM S a)
theorem cells_of_cell {w:World} {b o:Nat} {v:Value} (h:w.cell? ⟨b,o,none⟩=some v) {x:Obj} (hx:w.heap[b]? =some x):x.isCells=true:=by
 simp only[World.cell?,hx] at h
 cases x<;>first | rfl | simp at h
theorem row_cells {w:World} {B:Nat} {e:TypeId} {size:Nat} {v:Value} {n:Nat} {xs:List Value} (h:w.ownsRow B e size v n xs) {k:Nat} (hk:v.ownBlock=some k) {x:Obj} (hx:w.heap[k]? =some x):x.isCells=true:=by
 rcases h.2 with⟨rfl,_⟩ | ⟨g,cap,cur,rfl,_,hg,_⟩
 · simp[Value.ownBlock] at hk
 · have e:g=k:=by simpa[Value.ownBlock] using hk
   subst e;rw[hg] at hx;injection hx with hx
   subst hx;rfl
theorem ResAt.cells {q:QLoc} {r:SRes} {w:World} (h:ResAt q r w) {k:Nat} (hk:k∈q.foot) {x:Obj} (hx:w.heap[k]? =some x):x.isCells=true:=by
 rcases QLoc.mem.1 hk with rfl | hk | hk
 · exact cells_of_cell (h.blk.cell 0) hx
 · exact row_cells h.fs hk hx
 · exact row_cells h.ms hk hx
theorem ResAt.heap {q:QLoc} {r:SRes} {w w':World} (h:ResAt q r w) (hz:w.heap.size≤w'.heap.size) (he:∀k∈q.foot,w'.heap[k]? =w.heap[k]?):ResAt q r w':=
 ⟨h.blk.same hz (he _ (QLoc.mem.2 (.inl rfl))),row_heap h.fs (fun k hk=>he k (QLoc.mem.2 (.inr (.inl hk)))),row_heap h.ms (fun k hk=>he k (QLoc.mem.2 (.inr (.inr hk)))),h.n1,h.n2,h.n3⟩
theorem QGoes.own {q:QLoc} {r:SRes} {w W W':World} {row:Option Nat} (h:QGoes q r w W) (hg:W.grownBy W' row) (hr:∀k,row=some k→w.heap.size≤k∧∃o:Obj,W.heap[k]? =some o∧o.isCells=false):QGoes q r w W':=by
 obtain⟨q',h1,h2,h3⟩:=h;refine⟨q',h1,h2.heap hg.size (fun k hk=>hg.block k (h2.lt k hk) (fun e=> ?_)),⟨hg.os.trans h3.os,hg.tape.trans h3.tape,hg.output.trans h3.output,Nat.le_trans h3.size hg.size,fun k hk hF=>(hg.block k (Nat.lt_of_lt_of_le hk h3.size) (fun e=> ?_)).trans (h3.block k hk hF),h3.new⟩⟩
 · obtain⟨_,o,ho,hc⟩:=hr k e.symm;rw[h2.cells hk ho] at hc
   cases hc
 · have:=(hr k e.symm).1;omega
theorem QGoes.ends {q q1 : QLoc} {r r1 : SRes} {w W W' : World} {ks : List Nat} (h0 : q1.rb = q.rb) (h : ResAt q1 r W) (hw : Goes q.foot q1.foot w W) (h2 : QGoes q1 r1 W W') (hk : ∀ k ∈ ks, k < w.heap.size ∧ k ∉ q.foot) :
    KeepsFrom w.heap.size W W'∧KeepL ks W W'∧QGoes q r1 w W':=by
 obtain⟨q2,e1,e2,e3⟩:=h2;refine⟨⟨e3.size,fun k o _ ho hc=>(e3.block k (Array.getElem?_eq_some_iff.1 ho).1 (fun hf=> ?_)).trans ho⟩,⟨e3.size,fun k hk2 hl=>e3.block k hl (fun hf=> ?_)⟩,q2,e1.trans h0,e2,hw.trans e3⟩
 · rw[h.cells hf ho] at hc
   cases hc
 · rcases hw.new k hf with hx | hx
   · exact(hk k hk2).2 hx
   · have:=(hk k hk2).1;omega
def KeepB (o:Option Nat) (w w':World):Prop:=w.heap.size≤w'.heap.size∧∀k,k<w.heap.size→o≠some k→w'.heap[k]? =w.heap[k]?
theorem KeepB.of_below {o:Option Nat} {w w':World} (h:Below w.heap.size w w'):KeepB o w w':=⟨h.size,fun k hk _=>h.block k hk⟩
theorem KeepB.alloc {o:Option Nat} {w w':World} (h:KeepB o w w') (x:Obj):KeepB o w (w'.alloc x):=⟨Nat.le_trans h.1 (by simp),fun k hk hn=>(((Below.refl _ _).alloc (Nat.le_refl _) x).block k (Nat.lt_of_lt_of_le hk h.1)).trans (h.2 k hk hn)⟩
theorem KeepB.grown {o:Option Nat} {w w1 w2:World} (h:KeepB o w w1) (hg:w1.grownBy w2 o):KeepB o w w2:=⟨Nat.le_trans h.1 hg.size,fun k hk hn=>(hg.block k (Nat.lt_of_lt_of_le hk h.1) (fun e=>hn e.symm)).trans (h.2 k hk hn)⟩
theorem KeepB.blk {o:Option Nat} {w w':World} {b:Nat} {C:Array Value} (h:KeepB o w w') (hb:Blk w b C) (hn:o≠some b):Blk w' b C:=hb.same h.1 (h.2 b hb.lt hn)
theorem lMessage_at {S:Sto} {i:Nat} {a:SAct} {j:Nat} {r:SReg} {k:Int} (hg:lGet S a.an a.aq=some (i,a)) (hr:a.regs[j]? =some r):lMessage S a.an a.aq j k=(lMsg S a r j k,true):=by
 have:lReg a (j:Int)=some r:=by unfold lReg;rw[if_pos (by omega)];simpa using hr
 unfold lMessage;rw[hg];simp only[this]
theorem Goes.blk {F F':List Nat} {w W:World} {b:Nat} {C:Array Value} (h:Goes F F' w W) (hb:Blk w b C) (hn:b∉F):Blk W b C:=hb.same h.size (h.block _ hb.lt hn)
theorem carry_of (L : SLoc) (S : Sto) (q : QLoc) (r0 : SRes) (i : Nat) (a : SAct) (d : Int) (ea : Int → Addr) (va : Option Addr) (vc : Nat) (w0 w : World)
    (h:StoreAt L S w0) (hG:StoGood S) (hg:lGet S a.an a.aq=some (i,a)) (hE:EnvS ea w0) (hb:Below w0.heap.size w0 w)
    (hr:∀(j:Nat) (r:SReg),a.regs[j]? =some r→∃g,va=some ⟨g,0,none⟩∧g∉q.foot∧RegC w g (j*6) r)
    (hq:ResAt q r0 w) (hqf:∀k∈q.foot,w0.heap.size≤k) (hl:a.regs.length≤6) (hn:r0.fs.length≤10∧r0.ms.length≤10)
    (hdo:∀r∈a.regs,vDir d r.seat.s≠0→(mDo r.seat (vDir d r.seat.s)).2=0):
    Calls Tryz.prog 152 #[.pointer (some ⟨L.sb,0,none⟩),.agg #[a.an,a.aq,a.oc,a.dp,.float .f64 a.ex,a.pa,a.de,.slice va a.regs.length vc],.int .i64 d,.pointer (some ⟨q.rb,0,none⟩)] w fun e w'=>e=.returned (.tuple #[])∧QGoes q ⟨r0.fs ++vFs d a,r0.ms ++vMs S d a,r0.wk⟩ w w':=by
 refine(callsIn_wide (n:=10)).1 ?_;have HD0:=qq (fun W=>dirs_of a.an a.aq a.oc a.dp a.ex a.pa a.de va a.regs.length vc d W);refine callsIn_of_wp_marks Tryz.func152 rfl trivial ?_ rfl;simp only[Tryz.ntmps152,List.size_toArray,List.length_cons,List.length_nil,Nat.reduceAdd,Nat.reduceSub,Array.replicate_succ,Array.replicate_zero,List.push_toArray,List.append_toArray,List.nil_append,List.cons_append]
 gi_wp2_with fail
 refine⟨trivial,(callsIn_wide.2 (HD0.out _)).mono ?_⟩;rintro e w1 ⟨rfl,rfl⟩;obtain⟨an,aq,oc,dp,ex,pa,de,rs⟩:=a;dsimp only at*;obtain⟨C1,hC1⟩:∃C1:Array Value,C1= #[.int .i64 an,.int .i64 aq,.int .i64 oc,.int .i64 dp,.float .f64 ex,.int .i64 pa,.int .i64 de,.slice va rs.length vc]:=⟨_,rfl⟩
 obtain⟨w5,hw5⟩:∃w5,w5=(((((w.alloc (.cells #[.pointer (some ⟨L.sb,0,none⟩)] 24)).alloc (.cells C1 51)).alloc (.cells #[.pointer (some ⟨q.rb,0,none⟩)] 238)).alloc (.cells C1 51)).alloc (.cells #[d] 3)):=⟨_,rfl⟩
 have HB5:=qq (show Below w.heap.size w w5 by rw[hw5];go_grown);have HZ5:=qq (show w5.heap.size=w.heap.size+5 by rw[hw5];simp);have KS:=qq (show Blk w5 w.heap.size #[.pointer (some ⟨L.sb,0,none⟩)] by rw[hw5];exact((((Blk.fresh _ _ _ _ (by simp)).alloc _).alloc _).alloc _).alloc _);have KA:=qq (show Blk w5 (w.heap.size+1) C1 by rw[hw5];exact(((Blk.fresh _ _ _ _ (by simp)).alloc _).alloc _).alloc _)
 have KO:=qq (show Blk w5 (w.heap.size+1+1) #[.pointer (some ⟨q.rb,0,none⟩)] by rw[hw5];exact((Blk.fresh _ _ _ _ (by simp)).alloc _).alloc _);have KA2:=qq (show Blk w5 (w.heap.size+1+1+1) C1 by rw[hw5];exact(Blk.fresh _ _ _ _ (by simp)).alloc _);have KD2:=qq (show Blk w5 (w.heap.size+1+1+1+1) #[d] by rw[hw5];exact(Blk.fresh _ _ _ _ (by simp)));rw[hC1] at hw5 KA KA2;simp only[World.size_alloc]
 rw[←hw5];clear hw5 hC1
 gi_wp2_with fail
 have HQ5:=qq (hq.below HB5.out);have HR5:=qq (fun(j:Nat) (r:SReg) (hj:rs[j]? =some r)=>(show ∃g,va=some ⟨g,0,none⟩∧g∉q.foot∧g<w.heap.size∧RegC w5 g (j*6) r by
   obtain⟨g,h1,h2,h3⟩:=hr j r hj;have hlt:=lt_of_cell h3.1;exact⟨g,h1,h2,hlt,h3.below HB5.out hlt⟩))
 have HF:=qq hq.lt;have HS5:=qq (h.below (hb.trans (HB5.out.mono hb.size)));have HE5:=qq (hE.below (hb.trans (HB5.out.mono hb.size)));obtain⟨gs,hgk,hgr⟩:∃gs:List Nat,(∀k∈gs,k<w.heap.size∧k∉q.foot)∧∀(j:Nat) (r:SReg),rs[j]? =some r→∃g,va=some ⟨g,0,none⟩∧g∈gs∧RegC w5 g (j*6) r:=by
  cases rs with
  | nil=>exact⟨[],by simp,fun j r hj=>by simp at hj⟩
  | cons r t=>
   obtain⟨g,h1,h2,h3,_⟩:=HR5.out 0 r rfl;refine⟨[g],fun k hk=>(by rw[List.mem_singleton.1 hk];exact⟨h3,h2⟩),fun j r2 hj=> ?_⟩;obtain⟨g2,i1,i2,i3,i4⟩:=HR5.out j r2 hj;rw[h1] at i1;injection i1 with i1
   injection i1 with i1
   subst i1;exact⟨g,h1,by simp,i4⟩
 have HKB:Hid (∀k∈[w.heap.size+1+1+1,w.heap.size+1+1+1+1] ++gs,k<w5.heap.size∧k∉q.foot):=qq (fun k hk=>by
   have hz:=HZ5.out;rcases List.mem_append.1 hk with hk | hk
   · have:k=w.heap.size+3∨k=w.heap.size+4:=by simpa using hk
     exact⟨by omega,fun hf=>by have:=HF.out k hf;omega⟩
   · exact⟨by have:=(hgk k hk).1;omega,(hgk k hk).2⟩)
 have HGR:=qq hgr;clear hgr hgk;refine wpIn_rangeFunc_ownG rfl (by omega) (gf:=236) (lb:= #[.pointer (some ⟨w.heap.size+1+1+1,0,none⟩),.pointer (some ⟨w.heap.size+1+1+1+1,0,none⟩)]) rfl trivial (enters_of Tryz.func236 (by kernel_rfl) rfl)
  (dirs_seq _ (by omega) ([w.heap.size+1+1+1,w.heap.size+1+1+1+1] ++gs) (w.heap.size+1+1+1) (w.heap.size+1+1+1+1) an aq oc dp ex pa de va vc d rs w5 KA2.out KD2.out (fun j r hj=>by obtain⟨g,h1,h2,h4⟩:=HGR.out j r hj;exact⟨g,h1,List.mem_append.2 (.inr h2),h4⟩) (by simp) (by simp) hl) keepL_t (fun W l o o' hl ho _ _=>⟨by simp,fun k hk _=>World.putObj_heap_other (fun e=>by have:=(HKB.out k hk).1;omega)⟩) (Below.refl _ _) (fun _=>rfl)
  (fun pre W=>QGoes q ⟨r0.fs ++(pre.map VDir.x).map (vF ⟨an,aq,oc,dp,ex,pa,de,rs⟩),r0.ms ++(pre.map VDir.x).map (vM S ⟨an,aq,oc,dp,ex,pa,de,rs⟩),r0.wk⟩ w5 W) (fun _ _ _=>False)
  (fun s A B row hs hg hr=>hs.own hg hr) (fun _ _ _ _ _ hs _ _=>hs)
  ⟨q,rfl,by simpa using HQ5.out,Goes.of_below (Below.refl _ _)⟩
  (fun v=>{tmps:= #[.pointer (some ⟨L.sb,0,none⟩),.agg #[an,aq,oc,dp,.float .f64 ex,pa,de,.slice va rs.length vc],.int .i64 d,.pointer (some ⟨q.rb,0,none⟩),.pointer (some ⟨w.heap.size,0,none⟩),.pointer (some ⟨w.heap.size+1,0,none⟩),undef,.pointer (some ⟨w.heap.size+1+1,0,none⟩),.int .i64 (v.x.1:Int),.int .i64 v.x.2,undef,undef,undef,undef,
    .agg #[an,aq,oc,dp,.float .f64 ex,pa,de,.slice va rs.length vc],.int .i64 d,.func (.func 236) #[] #[.pointer (some ⟨w.heap.size+1+1+1,0,none⟩),.pointer (some ⟨w.heap.size+1+1+1+1,0,none⟩)],.int .i64 (v.x.1:Int),.int .i64 v.x.2,undef,undef,undef,undef,undef,undef,undef,undef,undef,undef,undef,undef,undef,undef,undef,undef,undef,undef,undef,undef,undef,undef,undef,undef,undef,undef,undef,undef,undef,undef,undef,undef,undef,undef,undef,undef,undef,undef,undef,undef,undef,undef,undef,undef,undef,undef,undef,undef,undef,undef,undef,undef,undef,undef,undef,undef,undef],defers:=[]}) ?assign ?body ?done ?stop
 case assign=>
  intro l x W K hK
  gi_wp2_with fail
  exact hK
 case stop=>
  rintro D c pre W _ _ h _;exact h.elim
 case done=>
  rintro D ys W hD hys HI hK
  gi_wp2_with fail
  refine⟨by simp,.inl ⟨_,_,rfl,run_takeDeferred hK,?_⟩⟩;refine⟨_,results_none rfl _ _ _,rfl,?_⟩;have hI2:=HI.own (grownBy_putObj' W D (.deferred none)) (fun k e=>by injection e with e;subst e;exact⟨hD,_,hK,rfl⟩);rw[hys] at hI2;exact hI2.after HB5.out
 case body=>
  rintro l pre x W HI hlt;obtain⟨⟨j,k⟩,r,hrj,hk,hk0⟩:=x;have hrj:rs[j]? =some r:=hrj;have hk:k=vDir d r.seat.s:=hk;have hk0:k≠0:=hk0;dsimp only[VDir.x] at*
  have HX:=qq (fun(W':World) (q1:QLoc) (r1:SRes) (h0:q1.rb=q.rb) (h2:ResAt q1 r1 W) (h3:Goes q.foot q1.foot w5 W) (h4:QGoes q1 ⟨r0.fs ++(pre.map VDir.x ++ [(j,k)]).map (vF ⟨an,aq,oc,dp,ex,pa,de,rs⟩),r0.ms ++(pre.map VDir.x ++ [(j,k)]).map (vM S ⟨an,aq,oc,dp,ex,pa,de,rs⟩),r0.wk⟩ W W')=>QGoes.ends h0 h2 h3 h4 HKB.out);obtain⟨q1,e1,e2,e3⟩:=HI
  have BW:Below w0.heap.size w0 W:=(hb.trans (HB5.out.mono hb.size)).trans (e3.below hqf (by have:=hb.size;have:=HB5.out.size;omega));have HE:=qq (hE.below BW);have HS:=qq (h.below BW);have nf:∀b,w.heap.size≤b→b∉q.foot:=fun b hb hf=>by have:=HF.out b hf;omega
  have K1:=qq (e3.blk KS.out (nf _ (by omega)));have K2:=qq (e3.blk KA.out (nf _ (by omega)));have K3:=qq (e3.blk KO.out (nf _ (by omega)));obtain⟨g,rfl,hgf,hgl,hgc⟩:=HR5.out j r hrj;have hgc:=RegC.keepL (ks:=[g]) hgc ⟨e3.size,fun k hk hl=>by rw[List.mem_singleton.1 hk] at hl⊢;exact e3.block _ hl hgf⟩ (by simp);have hd2:=hdo r (List.mem_of_getElem? hrj) (by rw[←hk];exact hk0);rw[←hk] at hd2
  have hM:=lMessage_at (a:=⟨an,aq,oc,dp,ex,pa,de,rs⟩) (j:=j) (k:=k) hg hrj;obtain⟨rn,rp,⟨sp,sd,ss,sh⟩⟩:=r;have HV:Hid (vF ⟨an,aq,oc,dp,ex,pa,de,rs⟩ (j,k)=fSeat an aq j (mDo ⟨sp,sd,ss,sh⟩ k).1.seat.s (mDo ⟨sp,sd,ss,sh⟩ k).1.seat.h∧vM S ⟨an,aq,oc,dp,ex,pa,de,rs⟩ (j,k)=lMsg S ⟨an,aq,oc,dp,ex,pa,de,rs⟩ ⟨rn,rp,⟨sp,sd,ss,sh⟩⟩ j k):=qq (by unfold vF vM;dsimp only at hrj⊢;rw[hrj];exact⟨rfl,rfl⟩)
  have hD:=fun W hW=>do_of ⟨sp,sd,ss,sh⟩ k ea W (EnvS.err3 hW) hW.e.e9
  have hLM:=fun W hW=>lmessage_of L S an aq (j:Int) k W hW hG
  rw[hM] at hLM;obtain⟨y,hy⟩:∃y,y=mDo ⟨sp,sd,ss,sh⟩ k:=⟨_,rfl⟩
  dsimp only at hd2;rw[←hy] at hD hd2 HV;obtain⟨⟨⟨p2,d2,s2,q2⟩,f2,u2,v2,cc⟩,n2⟩:=y;dsimp only at hd2;subst hd2;have hjr:j<rs.length:=(List.getElem?_eq_some_iff.1 hrj).1;have H1:Hid (∀W,EnvS ea W→_):=qq hD;have H2:Hid (∀W,StoreAt L S W→_):=qq hLM
  obtain⟨r1,hr1⟩:∃r1:SRes,r1=⟨r0.fs ++(pre.map VDir.x).map (vF ⟨an,aq,oc,dp,ex,pa,de,rs⟩),r0.ms ++(pre.map VDir.x).map (vM S ⟨an,aq,oc,dp,ex,pa,de,rs⟩),r0.wk⟩:=⟨_,rfl⟩
  rw[←hr1] at e2;have HR1:=qq hr1;have hl1:r1.fs.length≤100∧r1.ms.length≤100:=by rw[hr1];simp only[List.length_append,List.length_map];omega
  have HQ:=qq e2;have HG:=qq e3;have HE1:=qq e1;clear hD hLM hM hrj hk hgf hgl hy hr1 e1 e2 e3 BW nf hb hdo hr hq hqf hE h hg hG HQ5 HS5 HE5 HR5 hn hlt hk0;obtain⟨p0,p1,p3,p4,p5,p6⟩:=hgc;dsimp only at p0 p1 p3 p4 p5 p6;dsimp only[seatV,effV] at H1;dsimp only[msgV,msgA,lMsg] at H2 HV;have c2:=K2.out.cell;have hji:(j:Int)<(rs.length:Int):=by omega
  have hj0:(0:Int)≤(j:Int):=by omega
  gi_wp2_with fail
  refine⟨trivial,CallsIn.mono (calls_inRound (H1.out _ HE.out)) ?_⟩;rintro e w6 ⟨rfl,hb6⟩;have HB6:=qq hb6;have k2:=(K2.out.below hb6).cell;have k1:=(K1.out.below hb6).cell;have l2:=(K2.out.below hb6).lt;have l1:=(K1.out.below hb6).lt;have e0:errOf ea 0=.nilIface:=rfl;rw[e0];clear c2 p0 p1 p3 p4 p5 p6 hb6
  gi_wp2_with fail
  have HB7:=qq (HB6.out.alloc HB6.out.size (.cells #[p2,d2,s2,q2,f2,u2,v2,.bool cc] 224));have KE:=qq (Blk.fresh w6 #[p2,d2,s2,q2,f2,u2,v2,.bool cc] 224 _ rfl);refine⟨trivial,CallsIn.mono (calls_inRound (H2.out _ (HS.out.below HB7.out))) ?_⟩;rintro e w7 ⟨rfl,hb7⟩;have HB8:=qq (below_then HB7.out hb7);have KE:=qq (KE.out.below hb7);have lE:=KE.out.lt;clear k1 k2 l1 l2 hb7 HB7
  gi_wp2_with fail
  have HB9:=qq (HB8.out.alloc HB8.out.size (.cells #[k,S.node,rn,an,aq,(j:Int),rp,.int .i64 0,.int .i64 0] 81));have K1:=qq (K1.out.below HB9.out);have K2:=qq (K2.out.below HB9.out);have K3:=qq (K3.out.below HB9.out);have KE:=qq (KE.out.alloc (.cells #[k,S.node,rn,an,aq,(j:Int),rp,.int .i64 0,.int .i64 0] 81))
  have KM:=qq (Blk.fresh w7 #[k,S.node,rn,an,aq,(j:Int),rp,.int .i64 0,.int .i64 0] 81 _ rfl);have HQ9:=qq (HQ.out.below HB9.out);obtain⟨MB,hMB⟩:∃b,b=w7.heap.size:=⟨_,rfl⟩
  rw[←hMB] at KM;have zMB:W.heap.size≤MB:=by rw[hMB];exact HB8.out.size
  obtain⟨w8,hw8⟩:∃w8,w8=w7.alloc (.cells #[k,S.node,rn,an,aq,(j:Int),rp,.int .i64 0,.int .i64 0] 81):=⟨_,rfl⟩
  simp only[←hMB,←hw8] at*;have zW6:=HB6.out.size;clear hw8 hMB HB8 HB6 lE;obtain⟨rb1,fv,mv⟩:=q1;obtain rfl:rb1=q.rb:=HE1.out;obtain⟨n1,hn1⟩:∃n,n=r1.fs.length:=⟨_,rfl⟩
  obtain⟨fa,fc,hfv⟩:=row_slice HQ9.out.fs;dsimp only at hfv;subst hfv;rw[←hn1] at HQ9 HG HQ;have KR:=qq HQ9.out.blk;dsimp only at KR;have hfoot:∀k,k∈(QLoc.mk q.rb (.slice fa n1 fc) mv).foot→(k<w.heap.size∨w.heap.size+5≤k)∧k<W.heap.size:=fun k hk=>⟨(HG.out.new k hk).imp (HF.out k) (by have:=HZ5.out;omega),HQ.out.lt k hk⟩
  obtain⟨ob,hob⟩:∃ob,ob=(Value.slice fa n1 fc).ownBlock:=⟨_,rfl⟩
  obtain⟨om,hom⟩:∃om,om=mv.ownBlock:=⟨_,rfl⟩
  have fob:∀k,ob=some k→(k<w.heap.size∨w.heap.size+5≤k)∧k<W.heap.size:=fun k hk=>hfoot k (QLoc.mem.2 (.inr (.inl (by rw[←hob];exact hk))))
  have fom:∀k,om=some k→(k<w.heap.size∨w.heap.size+5≤k)∧k<W.heap.size:=fun k hk=>hfoot k (QLoc.mem.2 (.inr (.inr (by rw[←hom];exact hk))))
  have N1:(ob≠some (w.heap.size+1+1)∧ob≠some (w.heap.size+1)∧ob≠some w6.heap.size∧ob≠some MB∧ob≠some q.rb):=⟨fun e=>by have:=(fob _ e).1;omega,fun e=>by have:=(fob _ e).1;omega,fun e=>by have:=(fob _ e).2;omega,fun e=>by have:=(fob _ e).2;omega,by rw[hob];exact HQ9.out.n1⟩
  have N2:(om≠some (w.heap.size+1+1)∧om≠some MB∧om≠some q.rb):=⟨fun e=>by have:=(fom _ e).1;omega,fun e=>by have:=(fom _ e).2;omega,by rw[hom];exact HQ9.out.n2⟩
  clear fob fom;have HFT:=qq hfoot;clear hfoot;obtain⟨i0,ei,ez,es,eb⟩:=info_parts infoFact
  -- the fact
  refine reg_startI (KeepB ob w8) (Below w8.heap.size w8) (by kernel_rfl) (by kernel_rfl) (.of_below (Below.refl _ _).drew) (Below.refl _ _).drew (fun j=>j==20) ?_;intro w9 hHeld hb9;refine takeX (d:=some 46) 0 rfl rfl hHeld (fun w' hS'=>by have qA:=(hS'.blk K3.out N1.1).cell;clear hS';go_simp;(try rfl)) ?_ (hQ:=noPanic);simp only[puts]
  refine takeX (d:=some 47) 1 rfl rfl hHeld (fun w' hS'=>by have qA:=(hS'.blk K3.out N1.1).cell;clear hS';go_simp;(try rfl)) ?_ (hQ:=noPanic);simp only[puts];refine takeX (d:=some 48) 2 rfl rfl hHeld (fun w' hS'=>by clear hS';go_simp;(try rfl)) ?_ (hQ:=noPanic);simp only[puts];refine takeX (d:=some 49) 3 rfl rfl hHeld (fun w' hS'=>by clear hS';go_simp;(try rfl)) ?_ (hQ:=noPanic);simp only[puts]
  refine takeX (d:=some 50) 4 rfl rfl hHeld (fun w' hS'=>by have qA:=(hS'.blk KR.out N1.2.2.2.2).cell;clear hS';go_simp;(try rfl)) ?_ (hQ:=noPanic);simp only[puts];refine takeX (d:=some 51) 5 rfl rfl hHeld (fun w' hS'=>by clear hS';go_simp;(try rfl)) ?_ (hQ:=noPanic);simp only[puts];refine takeX (d:=some 52) 6 rfl rfl hHeld (fun w' hS'=>by clear hS';go_simp;(try rfl)) ?_ (hQ:=noPanic)
  simp only[puts];refine takeX (d:=some 53) 7 rfl rfl hHeld (fun w' hS'=>by have qA:=(hS'.blk K2.out N1.2.1).cell;clear hS';go_simp;(try rfl)) ?_ (hQ:=noPanic);simp only[puts];refine takeX (d:=some 54) 8 rfl rfl hHeld (fun w' hS'=>by clear hS';go_simp;(try rfl)) ?_ (hQ:=noPanic);simp only[puts];refine takeX (d:=some 55) 9 rfl rfl hHeld (fun w' hS'=>by clear hS';go_simp;(try rfl)) ?_ (hQ:=noPanic)
  simp only[puts];refine takeX (d:=some 56) 10 rfl rfl hHeld (fun w' hS'=>by clear hS';go_simp;(try rfl)) ?_ (hQ:=noPanic);simp only[puts];refine takeX (d:=some 57) 11 rfl rfl hHeld (fun w' hS'=>by have qA:=(hS'.blk KE.out N1.2.2.1).cell;clear hS';go_simp;(try rfl)) ?_ (hQ:=noPanic);simp only[puts]
  refine takeX (d:=some 58) 12 rfl rfl hHeld (fun w' hS'=>by clear hS';go_simp;(try rfl)) ?_ (hQ:=noPanic);simp only[puts];refine takeX (d:=some 59) 13 rfl rfl hHeld (fun w' hS'=>by clear hS';go_simp;(try rfl)) ?_ (hQ:=noPanic);simp only[puts];refine takeX (d:=some 60) 14 rfl rfl hHeld (fun w' hS'=>by have qA:=(hS'.blk KE.out N1.2.2.1).cell;clear hS';go_simp;(try rfl)) ?_ (hQ:=noPanic)
  simp only[puts];refine takeX (d:=some 61) 15 rfl rfl hHeld (fun w' hS'=>by clear hS';go_simp;(try rfl)) ?_ (hQ:=noPanic);simp only[puts];have hb10:=hb9.alloc hb9.size (.cells #[.int .i64 3,an,aq,(j:Int),.int .i64 0,.int .i64 0,.int .i64 0,.int .i64 0,.int .i64 0,.int .i64 0,s2,q2,.int .i64 0,.float .f64 0] 39)
  refine new_X (d:=some 62) 16 (.slice (some ⟨w9.heap.size,0,none⟩) 1 1) #[.int .i64 3,.int .i64 an,.int .i64 aq,.int .i64 (j:Int),.int .i64 0,.int .i64 0,.int .i64 0,.int .i64 0,.int .i64 0,.int .i64 0,.int .i64 s2,.int .i64 q2,.int .i64 0,.float .f64 0] 39 rfl rfl (by go_simp) (hHeld.alloc _) ?_;intro hS10 kF;simp only[puts]
  refine app_X (d:=some 63) 17 rfl rfl rfl (.tmp 50) (.tmp 62) 22 rfl 0 39 i0 (.agg #[.int .i64 0,.int .i64 0,.int .i64 0,.int .i64 0,.int .i64 0,.int .i64 0,.int .i64 0,.int .i64 0,.int .i64 0,.int .i64 0,.int .i64 0,.int .i64 0,.int .i64 0,.float .f64 0]) 14 112 Tryz.underlying22 ei ez es eb rfl (by decide) (.slice fa n1 fc) n1 (factsL r1.fs) (by simp[Act.eval,hn1]) (row_be (by have:=HQ9.out.fs;rw[←hn1] at this;exact this) hb10) ⟨w9.heap.size,0,none⟩ 1 1 (factL (fSeat an aq j s2 q2)) (by rfl) rfl (lit_cells kF) (by exact factL_one (fSeat an aq j s2 q2)) (by unfold maxLen;omega) (by omega) (Nat.zero_le _) ?_
  intro v3 w11 hown hgrow hat;have HG2:=qq (q_fs (f:=fSeat an aq j s2 q2) HQ9.out hb10 hgrow (by rw[←hn1];exact hown) hat);rw[←hob] at hgrow;have kR:=(hS10.grown hgrow).blk KR.out N1.2.2.2.2;obtain⟨fa2,fc2,rfl⟩:=row_slice hown;have qR:=kR.cell;have fR:=kR.free;have lR:=kR.lt;clear hown hat hb10 kF;refine⟨.inr (hS10.grown hgrow),?_⟩;have hHeld:=hS10.grown hgrow;simp only[puts]
  refine pure_X (d:=some 64) 18 rfl rfl hHeld (by go_simp;(try rfl)) ?_;simp only[puts];refine pure_X (d:=some 65) 19 rfl rfl hHeld (by go_simp;(try rfl)) ?_;simp only[puts];refine set_X 20 (w11.setCell ⟨q.rb,0,none⟩ (.slice fa2 (n1+1) fc2)) rfl rfl (by go_simp) (.inl rfl) ?_;refine doneX (by kernel_rfl) ⟨rfl,?_⟩ _;clear hHeld hS10 hgrow kR qR fR lR hb9
  generalize w11.setCell ⟨q.rb,0,none⟩ (.slice fa2 (n1+1) fc2)=w12 at*;obtain⟨⟨rb2,fv2,mv2⟩,g1,g2,g3⟩:=HG2.out;obtain rfl:rb2=q.rb:=g1;have b2:=HFT.out;have lM:=KM.out.lt;have l3:=K3.out.lt;have K3:=qq (g3.blk K3.out (fun hf=>by have:=(b2 _ hf).1;omega));have KM:=qq (g3.blk KM.out (fun hf=>by have:=(b2 _ hf).2;omega))
  have hfoot:∀k,k∈(QLoc.mk q.rb fv2 mv2).foot→k≠w.heap.size+1+1∧k≠MB:=fun k hk=>by rcases g3.new k hk with e | e;have:=b2 k e;omega;omega
  obtain⟨n2,hn1⟩:∃n,n=r1.ms.length:=⟨_,rfl⟩
  obtain⟨ma,mc,hmv⟩:=row_slice g2.ms;dsimp only at hmv;subst hmv;rw[←hn1] at g2 g3 hfoot;have KR:=qq g2.blk;dsimp only at KR;obtain⟨om,hom⟩:∃om,om=(Value.slice ma n2 mc).ownBlock:=⟨_,rfl⟩
  have N3:om≠some (w.heap.size+1+1)∧om≠some MB∧om≠some q.rb:=⟨fun e=>(hfoot _ (QLoc.mem.2 (.inr (.inr (hom.symm.trans e))))).1 rfl,fun e=>(hfoot _ (QLoc.mem.2 (.inr (.inr (hom.symm.trans e))))).2 rfl,by rw[hom];exact g2.n2⟩
  have HQ2:=qq g2;have HG3:=qq g3;clear N1 i0 ei ez es eb hfoot b2 g2 g3 HG2 lM l3;obtain⟨i0,ei,ez,es,eb⟩:=info_parts infoMsg
  gi_wp2_with fail
  -- the message
  refine reg_startI (KeepB om w12) (Below w12.heap.size w12) (by kernel_rfl) (by kernel_rfl) (.of_below (Below.refl _ _).drew) (Below.refl _ _).drew (fun j=>j==10) ?_;intro w9 hHeld hb9;refine takeX (d:=some 66) 0 rfl rfl hHeld (fun w' hS'=>by have qA:=(hS'.blk K3.out N3.1).cell;clear hS';go_simp;(try rfl)) ?_ (hQ:=noPanic);simp only[puts]
  refine takeX (d:=some 67) 1 rfl rfl hHeld (fun w' hS'=>by have qA:=(hS'.blk K3.out N3.1).cell;clear hS';go_simp;(try rfl)) ?_ (hQ:=noPanic);simp only[puts];refine takeX (d:=some 68) 2 rfl rfl hHeld (fun w' hS'=>by clear hS';go_simp;(try rfl)) ?_ (hQ:=noPanic);simp only[puts];refine takeX (d:=some 69) 3 rfl rfl hHeld (fun w' hS'=>by clear hS';go_simp;(try rfl)) ?_ (hQ:=noPanic);simp only[puts]
  refine takeX (d:=some 70) 4 rfl rfl hHeld (fun w' hS'=>by have qA:=(hS'.blk KR.out N3.2.2).cell;clear hS';go_simp;(try rfl)) ?_ (hQ:=noPanic);simp only[puts];refine takeX (d:=some 71) 5 rfl rfl hHeld (fun w' hS'=>by have qA:=(hS'.blk KM.out N3.2.1).cell;clear hS';go_simp;(try rfl)) ?_ (hQ:=noPanic);simp only[puts]
  have hb10:=hb9.alloc hb9.size (.cells #[k,S.node,rn,an,aq,(j:Int),rp,.int .i64 0,.int .i64 0] 81);refine new_X (d:=some 72) 6 (.slice (some ⟨w9.heap.size,0,none⟩) 1 1) #[.int .i64 k,.int .i64 S.node,.int .i64 rn,.int .i64 an,.int .i64 aq,.int .i64 (j:Int),.int .i64 rp,.int .i64 0,.int .i64 0] 81 rfl rfl (by go_simp) (hHeld.alloc _) ?_;intro hS10 kF;simp only[puts]
  refine app_X (d:=some 73) 7 rfl rfl rfl (.tmp 70) (.tmp 72) 85 rfl 0 81 i0 (.agg #[.int .i64 0,.int .i64 0,.int .i64 0,.int .i64 0,.int .i64 0,.int .i64 0,.int .i64 0,.int .i64 0,.int .i64 0]) 9 72 Tryz.underlying85 ei ez es eb rfl (by decide) (.slice ma n2 mc) n2 (msgsL r1.ms) (by simp[Act.eval,hn1]) (row_be (by have:=HQ2.out.ms;rw[←hn1] at this;exact this) hb10) ⟨w9.heap.size,0,none⟩ 1 1 (msgL ⟨k,S.node,rn,an,aq,j,rp,0,0⟩) (by rfl) rfl (lit_cells kF) (by exact msgL_one ⟨k,S.node,rn,an,aq,j,rp,0,0⟩) (by unfold maxLen;omega) (by omega) (Nat.zero_le _) ?_
  intro v3 w11 hown hgrow hat;have HG4:=qq (q_ms (f:=⟨k,S.node,rn,an,aq,j,rp,0,0⟩) HQ2.out hb10 hgrow (by rw[←hn1];exact hown) hat);rw[←hom] at hgrow;have kR:=(hS10.grown hgrow).blk KR.out N3.2.2;obtain⟨fa2,fc2,rfl⟩:=row_slice hown;have qR:=kR.cell;have fR:=kR.free;have lR:=kR.lt;clear hown hat hb10 kF;refine⟨.inr (hS10.grown hgrow),?_⟩;have hHeld:=hS10.grown hgrow;simp only[puts]
  refine pure_X (d:=some 74) 8 rfl rfl hHeld (by go_simp;(try rfl)) ?_;simp only[puts];refine pure_X (d:=some 75) 9 rfl rfl hHeld (by go_simp;(try rfl)) ?_;simp only[puts];refine set_X 10 (w11.setCell ⟨q.rb,1,none⟩ (.slice fa2 (n2+1) fc2)) rfl rfl (by go_simp) (.inl rfl) ?_;refine doneX (by kernel_rfl) ⟨rfl,?_⟩ _;clear hHeld hS10 hgrow kR qR fR lR hb9
  generalize w11.setCell ⟨q.rb,1,none⟩ (.slice fa2 (n2+1) fc2)=w13 at*
  gi_wp2_with fail
  have ef:r0.fs ++(pre.map VDir.x ++ [(j,k)]).map (vF ⟨an,aq,oc,dp,ex,pa,de,rs⟩)=r1.fs ++ [fSeat an aq j s2 q2]:=by rw[HR1.out,List.map_append,List.map_singleton,HV.out.1,List.append_assoc]
  have em:r0.ms ++(pre.map VDir.x ++ [(j,k)]).map (vM S ⟨an,aq,oc,dp,ex,pa,de,rs⟩)=r1.ms ++ [⟨k,S.node,rn,an,aq,j,rp,0,0⟩]:=by rw[HR1.out,List.map_append,List.map_singleton,HV.out.2,List.append_assoc]
  have ew:r1.wk=r0.wk:=by rw[HR1.out]
  obtain⟨f1,f2,f3⟩:=HX.out w13 ⟨q.rb,.slice fa n1 fc,mv⟩ r1 rfl HQ.out HG.out (by
    obtain⟨q3,d1,d2,d3⟩:=HG4.out;rw[ef,em,←ew];exact⟨q3,d1,d2,Goes.after HB9.out (HG3.out.trans d3)⟩)
  refine⟨f1,f2,?_⟩;simp only[List.map_append,List.map_map,List.map_cons,List.map_nil] at f3⊢;exact f3
theorem vdo_ok {x:MSeat} (hd:x.d=1) (hR:mRight x=true) {d:Int} (hk:vDir d x.s≠0):(mDo x (vDir d x.s)).2=0:=by
 have h:=seat_mem hR;have hall:∀y∈seatList,mRight y=true→y.d=1→∀d∈([1,2]:List Int),vDir d y.s≠0→(mDo y (vDir d y.s)).2=0:=by decide+kernel
 by_cases h1:d=1
 · subst h1;exact hall x h hR hd 1 (by simp) hk
 · by_cases h2:d=2
   · subst h2;exact hall x h hR hd 2 (by simp) hk
   · exact absurd (by unfold vDir;simp[h1,h2]) hk
theorem QGoes.res {q : QLoc} {r : SRes} {w0 w w' : World} (h : QGoes q r w w') (hb : Below w0.heap.size w0 w) (hf : ∀ k ∈ q.foot, w0.heap.size ≤ k) :
    ∃a c b d,Blk w' q.rb #[.slice a r.fs.length c,.slice b r.ms.length d,r.wk]∧ReadR w0.heap.size w' (.slice a r.fs.length c) (.slice b r.ms.length d) r∧(∀k,sliceBlock (.slice a r.fs.length c)=some k∨sliceBlock (.slice b r.ms.length d)=some k→k≠q.rb∧(k∈q.foot∨w.heap.size≤k))∧Below w0.heap.size w0 w':=by
 obtain⟨⟨rb,fv,mv⟩,rfl,h2,h3⟩:=h;obtain⟨a,c,e1⟩:=row_slice h2.fs;obtain⟨b,d,e2⟩:=row_slice h2.ms;dsimp only at e1 e2;subst e1 e2;have hn:∀k∈(QLoc.mk q.rb (.slice a r.fs.length c) (.slice b r.ms.length d)).foot,w0.heap.size≤k:=fun k hk=>by
  rcases h3.new k hk with e | e
  · exact hf k e
  · exact Nat.le_trans hb.size e
 have o1:∀k,sliceBlock (.slice a r.fs.length c)=some k→(Value.slice a r.fs.length c).ownBlock=some k:=(read_row h2.fs).2;have o2:∀k,sliceBlock (.slice b r.ms.length d)=some k→(Value.slice b r.ms.length d).ownBlock=some k:=fun k hk=>slice_own h2.ms k hk
 refine⟨a,c,b,d,h2.blk,⟨(read_row h2.fs).1,read_mrow h2.ms,fun k hk=>hn k (QLoc.mem.2 (.inr (.inl (o1 k hk)))),fun k hk=>hn k (QLoc.mem.2 (.inr (.inr (o2 k hk))))⟩,fun k hk=> ?_,hb.trans (h3.below hf hb.size)⟩;rcases hk with hk | hk
 · exact⟨fun e=>h2.n1 (by rw[←e];exact o1 k hk),h3.new k (QLoc.mem.2 (.inr (.inl (o1 k hk))))⟩
 · exact⟨fun e=>h2.n2 (by rw[←e];exact o2 k hk),h3.new k (QLoc.mem.2 (.inr (.inr (o2 k hk))))⟩
def vRes (S:Sto) (a:SAct) (d:Int):SRes:=⟨vFs d a,vMs S d a,0⟩
theorem vcarry_no (L:SLoc) (S:Sto) (na qa:Int) (w:World) (h:StoreAt L S w) (hG:StoGood S) (hg:lGet S na qa=none):Calls Tryz.prog 51 #[.pointer (some ⟨L.sb,0,none⟩),.agg #[na,qa]] w (ResR res0 w):=by
 have HF:=qq (fun W hW=>Find_no L S na qa W hW hG hg);have H:=qq h;clear h hG hg;go_enter Tryz.func51,Tryz.ntmps51;go_wp2_with fail;refine(HF.out _ (H.out.below (by go_grown))).mono ?_;rintro e w1 ⟨rfl,hb1⟩;have HB:=qq (below_then (show Below w.heap.size w _ from by go_grown) hb1)
 have K1:=qq ((((Blk.fresh (w.alloc (.cells #[na,qa] 36)) #[.slice none 0 0,.slice none 0 0,.int .i64 0] 87 _ rfl).alloc (.cells #[.slice none 0 0,.slice none 0 0,.int .i64 0] 87)).below hb1));have K2:=qq ((Blk.fresh ((w.alloc (.cells #[na,qa] 36)).alloc (.cells #[.slice none 0 0,.slice none 0 0,.int .i64 0] 87)) #[.slice none 0 0,.slice none 0 0,.int .i64 0] 87 _ rfl).below hb1)
 simp only[World.size_alloc] at K1 K2;obtain⟨l1,k1,f1⟩:=K1.out;obtain⟨l2,k2,f2⟩:=K2.out;clear hb1;go_wp2_with fail;have hV:=((((K1.out.set' 0 (by simp) (.slice none 0 0)).set' 1 (by simp) (.slice none 0 0)).set' 2 (by simp) (.int .i64 0)).alloc (.cells #[.int .i64 0,.int .i64 0,.int .i64 0,.int .i64 0,.float .f64 0,.int .i64 0,.int .i64 0,.slice none 0 0] 51))
 have hVq:=hV.cell;have hVf:=hV.free;refine bodyPost_ret (v:=.agg #[.slice none 0 0,.slice none 0 0,.int .i64 0]) (by simp[results,Tryz.results51,go_sem,hVq,hVf]) rfl ?_;exact⟨none,0,none,0,rfl,⟨read_nil,read_mnil,no_block,no_block⟩,bel_alloc (bst (bst (bst HB.out (w.heap.size+1) 0 _) (w.heap.size+1) 1 _) (w.heap.size+1) 2 _) _⟩
theorem vcarry_yes (L:SLoc) (S:Sto) (i:Nat) (a:SAct) (ea:Int→Addr) (w:World) (h:StoreAt L S w) (hG:StoGood S) (hE:EnvS ea w) (hg:lGet S a.an a.aq=some (i,a)):Calls Tryz.prog 51 #[.pointer (some ⟨L.sb,0,none⟩),.agg #[a.an,a.aq]] w (ResR (vRes S a a.de) w):=by
 have HF:=qq (fun W hW=>Find_yes L S a.an a.aq i a W hW hG hg);have H:=qq h;have hA:=hG.act a (lGet_some hg).2.2.1;have HC:=qq (fun(q:QLoc) (r0:SRes) va vc W hb hr hq hqf hn=>carry_of L S q r0 i a a.de ea va vc w W h hG hg hE hb hr hq hqf hA.len hn (fun r hr=>vdo_ok (hA.reg r hr).2.2.2.2.1 (hA.reg r hr).2.2.2.2.2));clear h hG hg hE;unfold ActOut actC at HF;go_enter Tryz.func51,Tryz.ntmps51
 go_wp2_with fail;refine(HF.out _ (H.out.below (by go_grown))).mono ?_;rintro e w1 ⟨v',rfl,ho,hb1⟩;obtain⟨va,vc,rfl,hlen,hrow⟩:=reg_row ho;have HB:=qq (below_then (show Below w.heap.size w _ from by go_grown) hb1)
 have K1:=qq ((((Blk.fresh (w.alloc (.cells #[a.an,a.aq] 36)) #[.slice none 0 0,.slice none 0 0,.int .i64 0] 87 _ rfl).alloc (.cells #[.slice none 0 0,.slice none 0 0,.int .i64 0] 87)).below hb1));have K2:=qq ((Blk.fresh ((w.alloc (.cells #[a.an,a.aq] 36)).alloc (.cells #[.slice none 0 0,.slice none 0 0,.int .i64 0] 87)) #[.slice none 0 0,.slice none 0 0,.int .i64 0] 87 _ rfl).below hb1)
 simp only[World.size_alloc] at K1 K2;have hbase:∀g,va=some ⟨g,0,none⟩→w.heap.size+3≤g:=fun g hg=>by have:=(ho.lt g (by rw[hg];rfl)).1;simp at this;omega
 have HR:Hid (∀(j:Nat) (r:SReg),a.regs[j]? =some r→∃g,va=some ⟨g,0,none⟩∧g≠w.heap.size+1+1∧g<w1.heap.size∧RegC w1 g (j*6) r):=qq (fun j r hj=>by
   obtain⟨g,h1,h2,_,h3⟩:=hrow (by have:=(List.getElem?_eq_some_iff.1 hj).1;omega);exact⟨g,h1,by have:=hbase g h1;omega,h2,h3 j r hj⟩)
 clear hb1 ho hrow hbase hlen;obtain⟨C,hC⟩:∃C:Array Value,C= #[.int .i64 a.an,.int .i64 a.aq,.int .i64 a.oc,.int .i64 a.dp,.float .f64 a.ex,.int .i64 a.pa,.int .i64 a.de,.slice va a.regs.length vc]:=⟨_,rfl⟩
 have HB2:=qq (bel_alloc HB.out (.cells C 51));have K2':=qq (K2.out.alloc (.cells C 51));have K1':=qq (K1.out.alloc (.cells C 51));have HR2:Hid (∀(j:Nat) (r:SReg),a.regs[j]? =some r→∃g,va=some ⟨g,0,none⟩∧g∉(QLoc.mk (w.heap.size+1+1) (.slice none 0 0) (.slice none 0 0)).foot∧RegC (w1.alloc (.cells C 51)) g (j*6) r):=qq (fun j r hj=>by
   obtain⟨g,h1,h2,h3,h4⟩:=HR.out j r hj;exact⟨g,h1,by simp[QLoc.foot,Value.ownBlock];omega,h4.below ((Below.refl _ _).alloc (Nat.le_refl _) _) h3⟩)
 have l1:=K1.out.lt;rw[hC] at HB2 K2' K1' HR2;clear K1 K2 HR hC;go_wp2_with fail;refine(HC.out ⟨w.heap.size+1+1,.slice none 0 0,.slice none 0 0⟩ ⟨[],[],0⟩ va vc _ HB2.out HR2.out ⟨K2'.out,World.ownsRow_nil _ _ _ _,World.ownsRow_nil _ _ _ _,by simp[Value.ownBlock],by simp[Value.ownBlock],by simp[Value.ownBlock]⟩ (by simp[QLoc.foot,Value.ownBlock];omega) (by simp)).mono ?_;rintro e w2 ⟨rfl,hq⟩
 have K1:=qq (show Blk w2 (w.heap.size+1) #[.slice none 0 0,.slice none 0 0,.int .i64 0] by
   obtain⟨q',_,_,h3⟩:=hq;exact h3.blk K1'.out (by simp[QLoc.foot,Value.ownBlock]))
 obtain⟨ra,rc,rb,rd,h1,h2,h3,h5⟩:=hq.res HB2.out (by simp[QLoc.foot,Value.ownBlock];omega);have hne:∀k,sliceBlock (.slice ra (vFs a.de a).length rc)=some k∨sliceBlock (.slice rb (vMs S a.de a).length rd)=some k→k≠w.heap.size+1:=fun k hk=>by
  have h6:=(h3 k (by simpa using hk)).2;have l2:=K2'.out.lt;simp[QLoc.foot,Value.ownBlock] at h6 l2;omega
 dsimp only at h1 h2;simp only[List.nil_append] at h1 h2;have HN:=qq hne;have HRR:=qq h2;have HBB:=qq h5;obtain⟨l1,k1,f1⟩:=K1.out;obtain⟨l2,k2,f2⟩:=h1;obtain⟨nf,hnf⟩:∃n,n=(vFs a.de a).length:=⟨_,rfl⟩
 obtain⟨nm,hnm⟩:∃n,n=(vMs S a.de a).length:=⟨_,rfl⟩
 rw[←hnf,←hnm] at k2 HN;have HNF:=qq hnf;have HNM:=qq hnm;clear hq h2 h3 h5 hne HB2 K2' K1' HR2 HC H HF hnf hnm;go_wp2_with fail;have hV:=(((K1.out.set' 0 (by simp) (.slice ra nf rc)).set' 1 (by simp) (.slice rb nm rd)).set' 2 (by simp) (.int .i64 0))
 have hVq:=hV.cell;have hVf:=hV.free;refine bodyPost_ret (v:=.agg #[.slice ra nf rc,.slice rb nm rd,.int .i64 0]) (by simp[results,Tryz.results51,go_sem,hVq,hVf]) rfl ?_;have e1:nf=(vRes S a a.de).fs.length:=HNF.out;have e2:nm=(vRes S a a.de).ms.length:=HNM.out
 have hk:∀k,k≠w.heap.size+1→((((w2.setCell ⟨w.heap.size+1,0,none⟩ (.slice ra nf rc)).setCell ⟨w.heap.size+1,1,none⟩ (.slice rb nm rd)).setCell ⟨w.heap.size+1,2,none⟩ (.int .i64 0)).heap[k]? =w2.heap[k]?):=fun k hk=>by rw[Below.heap_setCell _ _ _ _ hk,Below.heap_setCell _ _ _ _ hk,Below.heap_setCell _ _ _ _ hk]
 have hr:=HRR.out;rw[←HNF.out,←HNM.out] at hr;exact⟨ra,rc,rb,rd,by first | rfl | (rw[←e1,←e2];rfl),by rw[←e1,←e2];exact⟨hr.f.heap (by simp) (fun k h=>hk k (HN.out k (.inl h))),hr.m.heap (by simp) (fun k h=>hk k (HN.out k (.inr h))),hr.ff,hr.mf⟩,bst (bst (bst HBB.out (w.heap.size+1) 0 _) (w.heap.size+1) 1 _) (w.heap.size+1) 2 _⟩
theorem gdo_eq (x:MSeat) (k:Int) (w:World):Calls Tryz.prog 145 #[seatV x,.int .i64 k] w (Makes (.tuple #[effV (mDo x k).1,.int .i64 (mDo x k).2]) w):=by
 rw[(eq_any x k).2];exact gdo_of x k w
def RDoEnds (r:SRes) (n:Int) (w:World) (e:Ending) (w':World):Prop:=∃fv mv,e=.returned (.tuple #[.agg #[fv,mv,r.wk],.int .i64 n])∧ReadFacts w' fv r.fs∧ReadMsgs w' mv r.ms∧Below w.heap.size w w'
theorem ract_at {R : RLoc} {S : Sto} {w : World} {i : Nat} {a : SAct} (h : RStoreAt R S w) (hG : StoGood S) (ha : S.acts[i]? = some a) : ∃ (g n cap : Nat) (va : Option Addr) (vc : Nat), i < n ∧ n ≤ 8 ∧ a.regs.length ≤ 6 ∧ (∀ W, Below w.heap.size w W → R.sb < W.heap.size ∧ g < W.heap.size ∧ W.cell? ⟨R.sb, 0, none⟩ = some (.int .i64 S.node) ∧ W.cell? ⟨R.sb, 2, none⟩ = some (.slice (some ⟨g, 0, none⟩) n cap) ∧ ActC W g (i * 8) a (.slice va a.regs.length vc))
    ∧∀(j:Nat) (r:SReg),a.regs[j]? =some r→∃gr,va=some ⟨gr,0,none⟩∧∀W,Below w.heap.size w W→gr<W.heap.size∧RegC W gr (j*6) r:=by
 obtain⟨av,cap,hv,hn,hrow⟩:=act_row h.len h.acts;have hi:=(List.getElem?_eq_some_iff.1 ha).1;obtain⟨g,rfl,hg,hfz,hcell⟩:=hrow (by omega);obtain⟨u,hu⟩:∃u,R.rv[i]? =some u:=⟨_,List.getElem?_eq_getElem (by rw[h.len];exact hi)⟩
 obtain⟨va,vc,rfl,hlen,hr⟩:=reg_row (h.regs i u a hu ha);have h2:w.cell? ⟨R.sb,2,none⟩=some (.slice (some ⟨g,0,none⟩) S.acts.length cap):=by rw[←hv];exact h.blk.cell 2
 have h0:w.cell? ⟨R.sb,0,none⟩=some (.int .i64 S.node):=h.blk.cell 0;have hs:=h.blk.lt;refine⟨g,S.acts.length,cap,va,vc,hi,hG.acts,(hG.act a (List.mem_of_getElem? ha)).len,fun W hW=>⟨Nat.lt_of_lt_of_le hs hW.size,Nat.lt_of_lt_of_le hg hW.size,(hW.cell (p:=⟨R.sb,0,none⟩) hs).trans h0,(hW.cell (p:=⟨R.sb,2,none⟩) hs).trans h2,(hcell i a _ ha hu).below hW hg⟩,?_⟩;intro j r hj
 obtain⟨gr,hgr,hgl,_,hc⟩:=hr (by have:=(List.getElem?_eq_some_iff.1 hj).1;omega);exact⟨gr,hgr,fun W hW=>⟨Nat.lt_of_lt_of_le hgl hW.size,(hc j r hj).below hW hgl⟩⟩
theorem rlmsg17_of (R:RLoc) (S:Sto) (i j:Nat) (k:Int) (a:SAct) (r:SReg) (w:World) (h:RStoreAt R S w) (hG:StoGood S) (ha:S.acts[i]? =some a) (hj:a.regs[j]? =some r):Calls Tryz.prog 74 #[.pointer (some ⟨R.sb,0,none⟩),.int .i64 i,.int .i64 j,.int .i64 k] w (Makes (msgV (lMsg S a r j k)) w):=by
 unfold lMsg;obtain⟨g,n,cap,va,vc,hin,hn8,hv6,hQ,hRR⟩:=ract_at h hG ha;obtain⟨nd,hnd⟩:∃nd,nd=S.node:=⟨_,rfl⟩
 have hi0:(0:Int)≤(i:Int):=by omega
 have hi1:(i:Int)<(n:Int):=by omega
 obtain⟨gr,rfl,hQR⟩:=hRR j r hj;have hj0:(0:Int)≤(j:Int):=by omega
 have hjl:j<a.regs.length:=(List.getElem?_eq_some_iff.1 hj).1;rw[←hnd] at hQ⊢;obtain⟨an,aq,oc,dp,ex,pa,de,rs⟩:=a;unfold ActC at hQ;dsimp only at*;obtain⟨vn,hvn⟩:∃n,n=rs.length:=⟨_,rfl⟩
 rw[←hvn] at hQ hv6 hjl;obtain⟨rn,rp,⟨sp,sd,ss,sh⟩⟩:=r;unfold RegC at hQR;dsimp only at*;have hj1:(j:Int)<(vn:Int):=by omega
 have HQ:=qq (fun W hW=>And.intro (hQ W hW) (hQR W hW));dsimp only[msgV,msgA];clear h hG ha hj hnd hvn hQ hQR hRR;go_enter Tryz.func74,Tryz.ntmps74;obtain⟨⟨xl,gl,xn,xa,a0,a1,a2,a3,a4,a5,a6,a7⟩,rl,r0,r1,r2,r3,r4,r5⟩:=HQ.out _ (Below.refl _ _);go_wp2_with fail;clear xl gl xn xa a0 a1 a2 a3 a4 a5 a6 a7 rl r0 r1 r2 r3 r4 r5
 refine reg_start2 (fun w'=>Blk w' _ _∧Blk w' _ _∧Below w.heap.size w w') (fun w'=>w'.heap[_]? =some _) (by kernel_rfl) ⟨((Blk.fresh _ _ _ (w.heap.size) (by simp)).alloc _).drew,(Blk.fresh _ _ _ (w.heap.size+1) (by simp)).drew,(bel_drew (bel_alloc (bel_alloc (Below.refl w.heap.size w) _) _))⟩ ((hp_dr (hp_al (hp_new (w.heap.size) (by simp)) _))) ?_;rintro w1 hHeld TK1';have TK1:=qq TK1';clear TK1'
 obtain⟨K1',K2',HB'⟩:=id hHeld;have K1:=qq K1';have K2:=qq K2';have HB:=qq HB';clear K1' K2' HB';have z1:=HB.out.size;refine takeM (d:=some 21) 0 rfl rfl hHeld (fun w' _=>by go_simp;(try rfl)) ?_;simp only[puts];refine takeM (d:=some 22) 1 rfl rfl hHeld (fun w' _=>by go_simp;(try rfl)) ?_;simp only[puts];refine takeM (d:=some 23) 2 rfl rfl hHeld (fun w' _=>by go_simp;(try rfl)) ?_;simp only[puts]
 refine takeM (d:=some 24) 3 rfl rfl hHeld (fun w' _=>by go_simp;(try rfl)) ?_;simp only[puts];refine takeM (d:=some 25) 4 rfl rfl hHeld (fun w' hS'=>by obtain⟨⟨xl,gl,xn,xa,a0,a1,a2,a3,a4,a5,a6,a7⟩,rl,r0,r1,r2,r3,r4,r5⟩:=HQ.out _ hS'.2.2;clear hS';go_simp;(try rfl)) ?_;simp only[puts];refine takeM (d:=some 26) 5 rfl rfl hHeld (fun w' _=>by go_simp;(try rfl)) ?_;simp only[puts]
 refine takeM (d:=some 27) 6 rfl rfl hHeld (fun w' hS'=>by have qA:=hS'.2.1.cell;clear hS';go_simp;(try rfl)) ?_;simp only[puts];refine takeM (d:=some 28) 7 rfl rfl hHeld (fun w' _=>by go_simp;(try rfl)) ?_;simp only[puts];refine takeM (d:=some 29) 8 rfl rfl hHeld (fun w' _=>by go_simp;(try rfl)) ?_;simp only[puts];refine takeM (d:=some 30) 9 rfl rfl hHeld (fun w' _=>by go_simp;(try rfl)) ?_
 simp only[puts];refine takeM (d:=some 31) 10 rfl rfl hHeld (fun w' hS'=>by obtain⟨⟨xl,gl,xn,xa,a0,a1,a2,a3,a4,a5,a6,a7⟩,rl,r0,r1,r2,r3,r4,r5⟩:=HQ.out _ hS'.2.2;clear hS';go_simp;(try rfl)) ?_;simp only[puts];refine takeM (d:=some 32) 11 rfl rfl hHeld (fun w' _=>by go_simp;(try rfl)) ?_;simp only[puts];refine takeM (d:=some 33) 12 rfl rfl hHeld (fun w' _=>by go_simp;(try rfl)) ?_;simp only[puts]
 refine takeM (d:=some 34) 13 rfl rfl hHeld (fun w' _=>by go_simp;(try rfl)) ?_;simp only[puts];refine takeM (d:=some 35) 14 rfl rfl hHeld (fun w' _=>by go_simp;(try rfl)) ?_;simp only[puts];refine takeM (d:=some 36) 15 rfl rfl hHeld (fun w' hS'=>by obtain⟨⟨xl,gl,xn,xa,a0,a1,a2,a3,a4,a5,a6,a7⟩,rl,r0,r1,r2,r3,r4,r5⟩:=HQ.out _ hS'.2.2;clear hS';go_simp;(try rfl)) ?_;simp only[puts]
 refine takeM (d:=some 37) 16 rfl rfl hHeld (fun w' _=>by go_simp;(try rfl)) ?_;simp only[puts];refine takeM (d:=some 38) 17 rfl rfl hHeld (fun w' _=>by go_simp;(try rfl)) ?_;simp only[puts];refine takeM (d:=some 39) 18 rfl rfl hHeld (fun w' hS'=>by have qA:=hS'.2.1.cell;clear hS';go_simp;(try rfl)) ?_;simp only[puts];refine takeM (d:=some 40) 19 rfl rfl hHeld (fun w' _=>by go_simp;(try rfl)) ?_
 simp only[puts];refine last_row 20 81 (.tmp 8) (.tmp 40) rfl rfl rfl (w.heap.size) #[.int .i64 k,.int .i64 nd,.int .i64 rn,.int .i64 an,.int .i64 aq,.int .i64 j,.int .i64 rp,.int .i64 0,.int .i64 0] #[.int .i64 0,.int .i64 0,.int .i64 0,.int .i64 0,.int .i64 0,.int .i64 0,.int .i64 0,.int .i64 0,.int .i64 0] 81 TK1.out rfl rfl (by kernel_rfl) rfl (by simp[Value.oneCell']) ?_;clear hHeld
 rintro w2 hK hg;have K1:=qq hK;have K2:=qq (K2.out.gr hg (by omega));have HB:=qq (bel_gr HB.out hg (by omega));clear hK hg;have z2:=HB.out.size
 (try simp only[puts])
 obtain⟨⟨xl,gl,xn,xa,a0,a1,a2,a3,a4,a5,a6,a7⟩,rl,r0,r1,r2,r3,r4,r5⟩:=HQ.out _ HB.out;obtain⟨lK1,qK1,fK1⟩:=K1.out;obtain⟨lK2,qK2,fK2⟩:=K2.out;go_wp2_with fail;refine bodyPost_ret (v:=.agg #[k,nd,rn,an,aq,j,rp,.int .i64 0,.int .i64 0]) (by simp[results,Tryz.results74,go_sem,qK1,fK1]) rfl ?_;clear qK1 fK1 lK1 qK2 fK2 lK2 xl gl xn xa a0 a1 a2 a3 a4 a5 a6 a7 rl r0 r1 r2 r3 r4 r5;exact⟨rfl,HB.out⟩
section
variable {P:Program} {ops:Array Oper} {Q:Exit→Act→World→Prop} {md:Region.Mode} {S:World→Prop} {ex:Nat→Bool}
theorem reg_startX {id : Nat} {a : Act} {w : World} (F E : World → Prop) (hm : P.follows .mixedOrders = true) (hF : F w.drew) (hE : E w.drew) (ex : Nat → Bool)
    (h:∀w1,F w1→E w1→wpAnyX P .any ops Q ex F ops.size (Array.replicate ops.size false) a w1):(Code.region id ops true).wp P Q a w:=wp_region_any hm (wpAny_of_X _ _ _ _ (h _ hF hE))
theorem call_X {fuel : Nat} {listed : Array Bool} {a : Act} {w : World} {oi : Oper} {d : Option Tmp} (i : Nat) (f : Nat) (argsO : Array Operand) (ts : Array TypeId) (args : List Value) (hi : ops[i]? = some oi) (hd : oi.dst = d)
    (hop:oi.op=Op.call {callee:=Callee.value (Operand.func f),args:=argsO,argTypes:=ts}) (he:Enters P f) (hw:Region.wanted oi (yielded ops a.tmps)=true) (hargs:argsO.toList.map a.eval=args)
    (h:Calls P f args.toArray w (fun e w'=>∃v,e=.returned v∧(ex i=true∨S w')∧wpAnyX P md ops Q ex S fuel (listed.setIfInBounds i true) (a.put d v) w'))
    (hr:Region.ready md ops listed=[i]:=by kernel_rfl):wpAnyX P md ops Q ex S (fuel+1) listed a w:=
 one_X i hr (wpOp_call i f argsO ts args hi hd hop he hw hargs h)
end
theorem KeepB.below {o:Option Nat} {w w1 w2:World} (h:KeepB o w w1) (hb:Below w1.heap.size w1 w2):KeepB o w w2:=⟨Nat.le_trans h.1 hb.size,fun k hk hn=>(hb.block k (Nat.lt_of_lt_of_le hk h.1)).trans (h.2 k hk hn)⟩
structure RCarAt (fv mv:Value) (fs:List SFact) (ms:List SMsg) (w wr:World):Prop where
 out:Blk wr (w.heap.size+1) #[fv,mv,.int .i64 0]
 res:Blk wr w.heap.size #[.slice none 0 0,.slice none 0 0,.int .i64 0]
 fs:wr.ownsRow (w.heap.size+2) 42 14 fv fs.length (factsL fs)
 ms:wr.ownsRow (w.heap.size+2) 81 9 mv ms.length (msgsL ms)
 ne:∀k,fv.ownBlock=some k→mv.ownBlock≠some k
 be:Below w.heap.size w wr
theorem RCarAt.below {fv mv:Value} {fs:List SFact} {ms:List SMsg} {w wr W:World} (h:RCarAt fv mv fs ms w wr) (hb:Below wr.heap.size wr W):RCarAt fv mv fs ms w W:=
 ⟨h.out.below hb,h.res.below hb,row_be h.fs hb,row_be h.ms hb,h.ne,below_then h.be hb⟩
theorem RCarAt.addF {fv mv v2 : Value} {fs : List SFact} {ms : List SMsg} {f : SFact} {w w8 w10 w11 : World} (h8 : RCarAt fv mv fs ms w w8) (hb : Below w8.heap.size w8 w10) (hg : w10.grownBy w11 fv.ownBlock)
    (hown:w11.ownsRow (w.heap.size+2) 42 14 v2 (fs.length+1) (factsL fs ++factL f)) (hat:v2.ownBlock=fv.ownBlock∨v2.ownBlock=some w10.heap.size):RCarAt v2 mv (fs ++ [f]) ms w (w11.setCell ⟨w.heap.size+1,0,none⟩ v2):=by
 have h:=h8.below hb;have n1:∀j,fv.ownBlock=some j→w.heap.size+2≤j:=fun j e=>(h.fs.lt j e).1
 have n2:∀j,v2.ownBlock=some j→w.heap.size+2≤j:=fun j e=>(hown.lt j e).1
 have n3:∀j,mv.ownBlock=some j→w.heap.size+2≤j∧j<w10.heap.size:=fun j e=>h.ms.lt j e
 have hz:=h.be.size;have b1:=h.out.same hg.size (hg.block _ h.out.lt (fun e=>by have:=n1 _ e.symm;omega));have b0:=h.res.same hg.size (hg.block _ h.res.lt (fun e=>by have:=n1 _ e.symm;omega));refine⟨b1.set' 0 (by simp) v2,b0.other (p:=⟨w.heap.size+1,0,none⟩) (by(try dsimp only);omega) v2,?_,?_,fun k hk e=> ?_,(h.be.grown hg hz (fun j hj=>by have:=n1 _ hj;omega)).setCell (by simp) _⟩
 · rw[List.length_append];refine row_heap (xs:=factsL (fs ++ [f])) ?_ (fun k hk=>Below.heap_setCell _ _ _ _ (fun e=>by have:=n2 _ hk;(try dsimp only at e);omega));unfold factsL at hown⊢;rw[List.flatMap_append];simpa using hown
 · refine row_heap h.ms (fun k hk=> ?_);have hm:=n3 k hk;exact(Below.heap_setCell _ _ _ _ (fun e=>by(try dsimp only at e);omega)).trans (hg.block k hm.2 (fun e=>h.ne k e.symm hk))
 · rcases hat with e2 | e2
   · exact h.ne k (by rw[←e2];exact hk) e
   · rw[e2] at hk;injection hk with hk
     have:=(n3 k e).2;omega
theorem RCarAt.addM {fv mv v2 : Value} {fs : List SFact} {ms : List SMsg} {f : SMsg} {w w8 w10 w11 : World} (h8 : RCarAt fv mv fs ms w w8) (hb : Below w8.heap.size w8 w10) (hg : w10.grownBy w11 mv.ownBlock)
    (hown:w11.ownsRow (w.heap.size+2) 81 9 v2 (ms.length+1) (msgsL ms ++msgL f)) (hat:v2.ownBlock=mv.ownBlock∨v2.ownBlock=some w10.heap.size):RCarAt fv v2 fs (ms ++ [f]) w (w11.setCell ⟨w.heap.size+1,1,none⟩ v2):=by
 have h:=h8.below hb;have n1:∀j,mv.ownBlock=some j→w.heap.size+2≤j:=fun j e=>(h.ms.lt j e).1
 have n2:∀j,v2.ownBlock=some j→w.heap.size+2≤j:=fun j e=>(hown.lt j e).1
 have n3:∀j,fv.ownBlock=some j→w.heap.size+2≤j∧j<w10.heap.size:=fun j e=>h.fs.lt j e
 have hz:=h.be.size;have b1:=h.out.same hg.size (hg.block _ h.out.lt (fun e=>by have:=n1 _ e.symm;omega));have b0:=h.res.same hg.size (hg.block _ h.res.lt (fun e=>by have:=n1 _ e.symm;omega));refine⟨b1.set' 1 (by simp) v2,b0.other (p:=⟨w.heap.size+1,1,none⟩) (by(try dsimp only);omega) v2,?_,?_,fun k hk e=> ?_,(h.be.grown hg hz (fun j hj=>by have:=n1 _ hj;omega)).setCell (by simp) _⟩
 · refine row_heap h.fs (fun k hk=> ?_);have hm:=n3 k hk;exact(Below.heap_setCell _ _ _ _ (fun e=>by(try dsimp only at e);omega)).trans (hg.block k hm.2 (fun e=>h.ne k hk e.symm))
 · rw[List.length_append];refine row_heap (xs:=msgsL (ms ++ [f])) ?_ (fun k hk=>Below.heap_setCell _ _ _ _ (fun e=>by have:=n2 _ hk;(try dsimp only at e);omega));unfold msgsL at hown⊢;rw[List.flatMap_append];simpa using hown
 · rcases hat with e2 | e2
   · exact h.ne k hk (by rw[←e2];exact e)
   · rw[e2] at e;injection e with e
     have:=(n3 k hk).2;omega
theorem infoRFact:(Tryz.prog.info? 42).map (fun i=>(i.zero,i.size,i.bytes))=some (some (.agg #[.int .i64 0,.int .i64 0,.int .i64 0,.int .i64 0,.int .i64 0,.int .i64 0,.int .i64 0,.int .i64 0,.int .i64 0,.int .i64 0,.int .i64 0,.int .i64 0,.int .i64 0,.float .f64 0]),14,112):=by kernel_rfl
def RCarEnds (fs:List SFact) (ms:List SMsg) (w:World) (e:Ending) (w':World):Prop:=∃fa fc ma mc,e=.returned (.agg #[.slice fa fs.length fc,.slice ma ms.length mc,.int .i64 0])∧w'.ownsRow (w.heap.size+2) 42 14 (.slice fa fs.length fc) fs.length (factsL fs)∧w'.ownsRow (w.heap.size+2) 81 9 (.slice ma ms.length mc) ms.length (msgsL ms)∧(∀k,(Value.slice fa fs.length fc).ownBlock=some k→(Value.slice ma ms.length mc).ownBlock≠some k)∧Below w.heap.size w w'
theorem rcarry18_of (R:RLoc) (S:Sto) (i:Nat) (a:SAct) (d:Int) (w:World) (h:RStoreAt R S w) (hG:StoGood S) (ha:S.acts[i]? =some a):Calls Tryz.prog 53 #[.pointer (some ⟨R.sb,0,none⟩),.int .i64 i,.int .i64 d] w (RCarEnds (vFs d a) (vMs S d a) w):=by
 obtain⟨g,n,cap,va,vc,hin,hn8,hv6,hQ,hRR⟩:=ract_at h hG ha;have hi0:(0:Int)≤(i:Int):=by omega
 have hi1:(i:Int)<(n:Int):=by omega
 have HRM:=qq (fun(j:Nat) (r:SReg) (k:Int) (hj:a.regs[j]? =some r) W (hW:RStoreAt R S W)=>rlmsg17_of R S i j k a r W hW hG ha hj);have HH:=qq h;have HR5:=qq hRR;have HV:=qq (fun s W=>rvdir_of d s W);obtain⟨m,hm⟩:∃m,m=a.regs.length:=⟨_,rfl⟩
 unfold ActC at hQ;rw[←hm] at hQ hv6;have HQ:=qq hQ;have HM:=qq hm
 have HEND:Hid (∀fa fc ma mc (W:World),RCarAt (.slice fa (vFs d a).length fc) (.slice ma (vMs S d a).length mc) (vFs d a) (vMs S d a) w W→RCarEnds (vFs d a) (vMs S d a) w (.returned (.agg #[.slice fa (vFs d a).length fc,.slice ma (vMs S d a).length mc,.int .i64 0])) (((W.setCell ⟨w.heap.size,0,none⟩ (.slice fa (vFs d a).length fc)).setCell ⟨w.heap.size,1,none⟩ (.slice ma (vMs S d a).length mc)).setCell ⟨w.heap.size,2,none⟩ (.int .i64 0))):=qq (fun fa fc ma mc W hc=>by
   have hk:∀k,k≠w.heap.size→((((W.setCell ⟨w.heap.size,0,none⟩ (.slice fa (vFs d a).length fc)).setCell ⟨w.heap.size,1,none⟩ (.slice ma (vMs S d a).length mc)).setCell ⟨w.heap.size,2,none⟩ (.int .i64 0)).heap[k]? =W.heap[k]?):=fun k hk=>by rw[Below.heap_setCell _ _ _ _ hk,Below.heap_setCell _ _ _ _ hk,Below.heap_setCell _ _ _ _ hk]
   exact⟨fa,fc,ma,mc,rfl,row_heap hc.fs (fun k h=>hk k (by have:=(hc.fs.lt k h).1;omega)),row_heap hc.ms (fun k h=>hk k (by have:=(hc.ms.lt k h).1;omega)),hc.ne,bst (bst (bst hc.be w.heap.size 0 _) w.heap.size 1 _) w.heap.size 2 _⟩)
 clear h hG ha hin hn8 hQ hRR hm;go_enter Tryz.func53,Tryz.ntmps53;obtain⟨xl,gl,xn,xa,a0,a1,a2,a3,a4,a5,a6,a7⟩:=HQ.out _ (Below.refl _ _);go_wp2_with fail;clear xl gl xn xa a0 a1 a2 a3 a4 a5 a6 a7;go_loopw [23] (fun c wr=>∃(k:Nat) (fv mv:Value),k≤m∧c=.int .i64 (k:Int)∧Hid (RCarAt fv mv ((vDirsN d a.regs k).map (vF a)) ((vDirsN d a.regs k).map (vM S a)) w wr)) (fun c _=>m - (intOf c).toNat)
 case atStart=>exact⟨0,.slice none 0 0,.slice none 0 0,by omega,by first | rfl | go_num,qq ⟨Blk.fresh _ _ _ _ (by simp),(Blk.fresh w _ _ _ rfl).alloc _,World.ownsRow_nil _ _ _ _,World.ownsRow_nil _ _ _ _,by simp[Value.ownBlock],by go_grown⟩⟩
 case round=>
  obtain⟨k,fv,mv,hk,rfl,HC⟩:=hrel;by_cases hlt:k<m
  · obtain⟨r,hrk⟩:∃r,a.regs[k]? =some r:=⟨_,List.getElem?_eq_getElem (by rw[←HM.out];exact hlt)⟩
    have HRK:=qq hrk;have HS:=qq (vDirsN_succ (d:=d) hrk);obtain⟨gr,rfl,hgr⟩:=HR5.out k r hrk;obtain⟨hgl,r0,r1,r2,r3,r4,r5⟩:=hgr wr HC.out.be;have hk0:(0:Int)≤(k:Int):=by omega
    have hk1:(k:Int)<(m:Int):=by omega
    obtain⟨rn,rp,⟨sp,sd,ss,sh⟩⟩:=r;dsimp only at r0 r1 r2 r3 r4 r5 HS;clear hrk hgr;go_wp2_with fail;refine(HV.out ss _).mono ?_;rintro e w3 ⟨rfl,rfl⟩;obtain⟨z,hz⟩:∃z,z=vDir d ss:=⟨_,rfl⟩
    rw[←hz] at HS⊢;have hB3:Below wr.heap.size wr (wr.alloc (.cells #[rn,rp,sp,sd,ss,sh] 199)):=(Below.refl _ _).alloc (Nat.le_refl _) _;have HC3:=qq (HC.out.below hB3);clear hz r0 r1 r2 r3 r4 r5 hB3;by_cases h0z:z=0
    · subst h0z;rw[if_pos rfl,List.append_nil] at HS;go_wp2_with fail;go_roundw
      case rel=>exact⟨k+1,fv,mv,by omega,by go_num,qq (by rw[HS.out];exact HC3.out)⟩
      case measure=>simp[intOf];omega
    rw[if_neg h0z] at HS;have hzb:(z==0)=false:=by simpa using h0z
    have HVF:Hid (vF a (k,z)=fSeat a.an a.aq k (mDo ⟨sp,sd,ss,sh⟩ z).1.seat.s (mDo ⟨sp,sd,ss,sh⟩ z).1.seat.h∧vM S a (k,z)=lMsg S a ⟨rn,rp,⟨sp,sd,ss,sh⟩⟩ k z):=qq (⟨by unfold vF;simp only[HRK.out],by unfold vM;simp only[HRK.out]⟩);have HDo:=qq (fun W=>gdo_eq ⟨sp,sd,ss,sh⟩ z W);obtain⟨y,hy⟩:∃y,y=mDo ⟨sp,sd,ss,sh⟩ z:=⟨_,rfl⟩
    rw[←hy] at HDo HVF;obtain⟨⟨⟨p2,d2,s2,q2⟩,f2,u2,v2,cc⟩,n2⟩:=y;dsimp only[seatV,effV] at HDo;dsimp only[lMsg] at HVF;clear hy;go_wp2_with fail;refine(HDo.out _).mono ?_;rintro e w4 ⟨rfl,hb4⟩;have HC4:=qq (HC3.out.below hb4);clear hb4;go_wp2_with fail;have hB8:=(Below.refl w4.heap.size w4).alloc (Nat.le_refl _) (.cells #[p2,d2,s2,q2,f2,u2,v2,.bool cc] 229)
    have KE:=qq (Blk.fresh w4 #[p2,d2,s2,q2,f2,u2,v2,.bool cc] 229 _ rfl);have HC8:=qq (HC4.out.below hB8);obtain⟨eb,heb⟩:∃b,b=w4.heap.size:=⟨_,rfl⟩
    obtain⟨w8,hw8⟩:∃w8,w8=w4.alloc (.cells #[p2,d2,s2,q2,f2,u2,v2,.bool cc] 229):=⟨_,rfl⟩
    have hze:w8.heap.size=eb+1:=by rw[hw8,heb];simp
    have NE0:∀j,fv.ownBlock=some j∨mv.ownBlock=some j→j<eb:=fun j hj=>by rw[heb];exact hj.elim (fun e=>(HC4.out.fs.lt j e).2) (fun e=>(HC4.out.ms.lt j e).2)
    simp only[←heb,←hw8] at*;obtain⟨n1,hn1⟩:∃n,n=((vDirsN d a.regs k).map (vF a)).length:=⟨_,rfl⟩
    obtain⟨nm,hnm⟩:∃n,n=((vDirsN d a.regs k).map (vM S a)).length:=⟨_,rfl⟩
    have hn1k:n1≤k∧nm≤k:=by rw[hn1,hnm];simp only[List.length_map];exact⟨vDirsN_len,vDirsN_len⟩
    obtain⟨fa,fc,hfv⟩:=row_slice HC8.out.fs;obtain⟨ma,mc,hmv⟩:=row_slice HC8.out.ms;rw[←hn1] at hfv;rw[←hnm] at hmv;subst hfv hmv;have KR:=qq HC8.out.out;obtain⟨ob,hob⟩:∃ob,ob=(Value.slice fa n1 fc).ownBlock:=⟨_,rfl⟩
    have NR:ob≠some (w.heap.size+1):=fun e=>by rw[hob] at e;have:=(HC8.out.fs.lt _ e).1;omega
    have NE:ob≠some eb:=fun e=>by rw[hob] at e;have:=NE0 _ (.inl e);omega
    have hzb8:=HC8.out.be.size;obtain⟨i0,ei,ez,es,ebb⟩:=info_parts infoRFact
    -- the fact
    refine reg_startX (fun w'=>KeepB ob w8 w'∧Below w.heap.size w w') (Below w8.heap.size w8) (by kernel_rfl) ⟨.of_below (Below.refl _ _).drew,bel_drew HC8.out.be⟩ (Below.refl _ _).drew (fun j=>j==22) ?_;intro w9 hHeld hb9;refine takeX (d:=some 42) 0 rfl rfl hHeld (fun w' hS'=>by clear hS';go_simp;(try rfl)) ?_;simp only[puts]
    refine takeX (d:=some 43) 1 rfl rfl hHeld (fun w' hS'=>by have qA:=(hS'.1.blk KR.out NR).cell;clear hS';go_simp;(try rfl)) ?_;simp only[puts];refine takeX (d:=some 44) 2 rfl rfl hHeld (fun w' hS'=>by clear hS';go_simp;(try rfl)) ?_;simp only[puts];refine takeX (d:=some 45) 3 rfl rfl hHeld (fun w' hS'=>by clear hS';go_simp;(try rfl)) ?_;simp only[puts]
    refine takeX (d:=some 46) 4 rfl rfl hHeld (fun w' hS'=>by clear hS';go_simp;(try rfl)) ?_;simp only[puts];refine takeX (d:=some 47) 5 rfl rfl hHeld (fun w' hS'=>by obtain⟨xl,gl,xn,xa,a0,a1,a2,a3,a4,a5,a6,a7⟩:=HQ.out w' hS'.2;clear hS';go_simp;(try rfl)) ?_;simp only[puts];refine takeX (d:=some 48) 6 rfl rfl hHeld (fun w' hS'=>by clear hS';go_simp;(try rfl)) ?_;simp only[puts]
    refine takeX (d:=some 49) 7 rfl rfl hHeld (fun w' hS'=>by obtain⟨xl,gl,xn,xa,a0,a1,a2,a3,a4,a5,a6,a7⟩:=HQ.out w' hS'.2;clear hS';go_simp;(try rfl)) ?_;simp only[puts];refine takeX (d:=some 50) 8 rfl rfl hHeld (fun w' hS'=>by clear hS';go_simp;(try rfl)) ?_;simp only[puts];refine takeX (d:=some 51) 9 rfl rfl hHeld (fun w' hS'=>by clear hS';go_simp;(try rfl)) ?_;simp only[puts]
    refine takeX (d:=some 52) 10 rfl rfl hHeld (fun w' hS'=>by obtain⟨xl,gl,xn,xa,a0,a1,a2,a3,a4,a5,a6,a7⟩:=HQ.out w' hS'.2;clear hS';go_simp;(try rfl)) ?_;simp only[puts];refine takeX (d:=some 53) 11 rfl rfl hHeld (fun w' hS'=>by clear hS';go_simp;(try rfl)) ?_;simp only[puts];refine takeX (d:=some 54) 12 rfl rfl hHeld (fun w' hS'=>by clear hS';go_simp;(try rfl)) ?_;simp only[puts]
    refine takeX (d:=some 55) 13 rfl rfl hHeld (fun w' hS'=>by clear hS';go_simp;(try rfl)) ?_;simp only[puts];refine takeX (d:=some 56) 14 rfl rfl hHeld (fun w' hS'=>by have qA:=(hS'.1.blk KE.out NE).cell;clear hS';go_simp;(try rfl)) ?_;simp only[puts];refine takeX (d:=some 57) 15 rfl rfl hHeld (fun w' hS'=>by clear hS';go_simp;(try rfl)) ?_;simp only[puts]
    refine takeX (d:=some 58) 16 rfl rfl hHeld (fun w' hS'=>by clear hS';go_simp;(try rfl)) ?_;simp only[puts];refine takeX (d:=some 59) 17 rfl rfl hHeld (fun w' hS'=>by have qA:=(hS'.1.blk KE.out NE).cell;clear hS';go_simp;(try rfl)) ?_;simp only[puts];refine takeX (d:=some 60) 18 rfl rfl hHeld (fun w' hS'=>by clear hS';go_simp;(try rfl)) ?_;simp only[puts]
    have hb10:=hb9.alloc hb9.size (.cells #[.int .i64 3,a.an,a.aq,(k:Int),.int .i64 0,.int .i64 0,.int .i64 0,.int .i64 0,.int .i64 0,.int .i64 0,s2,q2,.int .i64 0,.float .f64 0] 42)
    refine new_X (d:=some 61) 19 (.slice (some ⟨w9.heap.size,0,none⟩) 1 1) #[.int .i64 3,.int .i64 a.an,.int .i64 a.aq,.int .i64 (k:Int),.int .i64 0,.int .i64 0,.int .i64 0,.int .i64 0,.int .i64 0,.int .i64 0,.int .i64 s2,.int .i64 q2,.int .i64 0,.float .f64 0] 42 rfl rfl (by go_simp) ⟨hHeld.1.alloc _,bel_alloc hHeld.2 _⟩ ?_;intro hS10 kF;simp only[puts]
    refine app_X (d:=some 62) 20 rfl rfl rfl (.tmp 43) (.tmp 61) 76 rfl (w.heap.size+2) 42 i0 (.agg #[.int .i64 0,.int .i64 0,.int .i64 0,.int .i64 0,.int .i64 0,.int .i64 0,.int .i64 0,.int .i64 0,.int .i64 0,.int .i64 0,.int .i64 0,.int .i64 0,.int .i64 0,.float .f64 0]) 14 112 Tryz.underlying76 ei ez es ebb rfl (by decide) (.slice fa n1 fc) n1 (factsL ((vDirsN d a.regs k).map (vF a))) (by simp[Act.eval,hn1]) (row_be (by have:=HC8.out.fs;rw[←hn1] at this;exact this) hb10) ⟨w9.heap.size,0,none⟩ 1 1 (factL (fSeat a.an a.aq k s2 q2)) (by rfl) rfl (lit_cells kF) (by exact factL_one (fSeat a.an a.aq k s2 q2)) (by unfold maxLen;omega) (by omega) (by have:=hb10.size;have:=hb9.size;have:=KR.out.lt;omega) ?_
    intro v3 w11 hown hgrow hat;have HCN:=qq (HC8.out.addF (f:=fSeat a.an a.aq k s2 q2) hb10 hgrow (by rw[←hn1];exact hown) hat);rw[←hob] at hgrow;have kR:=(hS10.1.grown hgrow).blk KR.out NR;have hHeld:KeepB ob w8 w11∧Below w.heap.size w w11:=⟨hS10.1.grown hgrow,hS10.2.grown hgrow hS10.2.size (fun j hj=>by rw[hob] at hj;have:=(HC8.out.fs.lt _ hj).1;omega)⟩
    obtain⟨fa2,fc2,rfl⟩:=row_slice hown;have qR:=kR.cell;have fR:=kR.free;have lR:=kR.lt;clear hown hat hb10 kF;refine⟨.inr hHeld,?_⟩;simp only[puts];refine pure_X (d:=some 63) 21 rfl rfl hHeld (by go_simp;(try rfl)) ?_;simp only[puts];refine set_X 22 (w11.setCell ⟨w.heap.size+1,0,none⟩ (.slice fa2 (n1+1) fc2)) rfl rfl (by go_simp) (.inl rfl) ?_;refine doneX (by kernel_rfl) ?_ _
    clear hHeld hS10 hgrow kR qR fR lR hb9;generalize w11.setCell ⟨w.heap.size+1,0,none⟩ (.slice fa2 (n1+1) fc2)=w12 at*;clear NR NE NE0 hzb8 i0 ei ez es ebb KR KE HC8 hob hze;go_wp2_with fail;have KR:=qq HCN.out.out;obtain⟨om,hom⟩:∃om,om=(Value.slice ma nm mc).ownBlock:=⟨_,rfl⟩
    have NR:om≠some (w.heap.size+1):=fun e=>by rw[hom] at e;have:=(HCN.out.ms.lt _ e).1;omega
    have hzb8:=HCN.out.be.size;obtain⟨i0,ei,ez,es,ebb⟩:=info_parts infoMsg;have HCM:=qq HCN.out
    -- the message
    refine reg_startX (fun w'=>KeepB om w12 w'∧Below w.heap.size w w') (Below w12.heap.size w12) (by kernel_rfl) ⟨.of_below (Below.refl _ _).drew,bel_drew HCM.out.be⟩ (Below.refl _ _).drew (fun j=>j==10) ?_;intro w9 hHeld hb9;refine takeX (d:=some 64) 0 rfl rfl hHeld (fun w' hS'=>by clear hS';go_simp;(try rfl)) ?_;simp only[puts]
    refine takeX (d:=some 65) 1 rfl rfl hHeld (fun w' hS'=>by have qA:=(hS'.1.blk KR.out NR).cell;clear hS';go_simp;(try rfl)) ?_;simp only[puts];refine takeX (d:=some 66) 2 rfl rfl hHeld (fun w' hS'=>by clear hS';go_simp;(try rfl)) ?_;simp only[puts];refine takeX (d:=some 67) 3 rfl rfl hHeld (fun w' hS'=>by clear hS';go_simp;(try rfl)) ?_;simp only[puts]
    refine takeX (d:=some 68) 4 rfl rfl hHeld (fun w' hS'=>by clear hS';go_simp;(try rfl)) ?_;simp only[puts];refine takeX (d:=some 69) 5 rfl rfl hHeld (fun w' hS'=>by clear hS';go_simp;(try rfl)) ?_;simp only[puts]
    refine call_X (d:=some 70) 6 74 _ _ [.pointer (some ⟨R.sb,0,none⟩),.int .i64 i,.int .i64 (k:Int),.int .i64 z] rfl rfl rfl (enters_of Tryz.func74 (by kernel_rfl) rfl) (by rfl) (by rfl) ?_;refine(HRM.out k ⟨rn,rp,⟨sp,sd,ss,sh⟩⟩ z HRK.out _ (HH.out.below hHeld.2)).mono ?_;rintro e w14 ⟨rfl,hb14⟩;have hHeld2:KeepB om w12 w14∧Below w.heap.size w w14:=⟨hHeld.1.below hb14,below_then hHeld.2 hb14⟩
    have hb15:=below_then hb9 hb14;clear hHeld hb9 hb14;refine⟨_,rfl,.inr hHeld2,?_⟩;simp only[puts];dsimp only[msgV,msgA,lMsg];have hHeld:=hHeld2;have hb9:=hb15;clear hHeld2 hb15;have hb10:=hb9.alloc hb9.size (.cells #[z,S.node,rn,a.an,a.aq,(k:Int),rp,.int .i64 0,.int .i64 0] 81)
    refine new_X (d:=some 71) 7 (.slice (some ⟨w14.heap.size,0,none⟩) 1 1) #[.int .i64 z,.int .i64 S.node,.int .i64 rn,.int .i64 a.an,.int .i64 a.aq,.int .i64 (k:Int),.int .i64 rp,.int .i64 0,.int .i64 0] 81 rfl rfl (by go_simp) ⟨hHeld.1.alloc _,bel_alloc hHeld.2 _⟩ ?_;intro hS10 kF;simp only[puts]
    refine app_X (d:=some 72) 8 rfl rfl rfl (.tmp 65) (.tmp 71) 85 rfl (w.heap.size+2) 81 i0 (.agg #[.int .i64 0,.int .i64 0,.int .i64 0,.int .i64 0,.int .i64 0,.int .i64 0,.int .i64 0,.int .i64 0,.int .i64 0]) 9 72 Tryz.underlying85 ei ez es ebb rfl (by decide) (.slice ma nm mc) nm (msgsL ((vDirsN d a.regs k).map (vM S a))) (by simp[Act.eval,hnm]) (row_be (by have:=HCM.out.ms;rw[←hnm] at this;exact this) hb10) ⟨w14.heap.size,0,none⟩ 1 1 (msgL ⟨z,S.node,rn,a.an,a.aq,k,rp,0,0⟩) (by rfl) rfl (lit_cells kF) (by exact msgL_one ⟨z,S.node,rn,a.an,a.aq,k,rp,0,0⟩) (by unfold maxLen;omega) (by omega) (by have:=hb10.size;have:=hb9.size;have:=KR.out.lt;omega) ?_
    intro v3 w11 hown hgrow hat;have HCN:=qq (HCM.out.addM (f:=⟨z,S.node,rn,a.an,a.aq,k,rp,0,0⟩) hb10 hgrow (by rw[←hnm];exact hown) hat);rw[←hom] at hgrow;have kR:=(hS10.1.grown hgrow).blk KR.out NR;have hHeld:KeepB om w12 w11∧Below w.heap.size w w11:=⟨hS10.1.grown hgrow,hS10.2.grown hgrow hS10.2.size (fun j hj=>by rw[hom] at hj;have:=(HCM.out.ms.lt _ hj).1;omega)⟩
    obtain⟨fa2,fc2,rfl⟩:=row_slice hown;have qR:=kR.cell;have fR:=kR.free;have lR:=kR.lt;clear hown hat hb10 kF;refine⟨.inr hHeld,?_⟩;simp only[puts];refine pure_X (d:=some 73) 9 rfl rfl hHeld (by go_simp;(try rfl)) ?_;simp only[puts];refine set_X 10 (w11.setCell ⟨w.heap.size+1,1,none⟩ (.slice fa2 (nm+1) fc2)) rfl rfl (by go_simp) (.inl rfl) ?_;refine doneX (by kernel_rfl) ?_ _
    clear hHeld hS10 hgrow kR qR fR lR hb9;generalize w11.setCell ⟨w.heap.size+1,1,none⟩ (.slice fa2 (nm+1) fc2)=w13 at*;go_wp2_with fail;go_roundw
    case rel=>exact⟨k+1,_,_,by omega,by go_num,qq (by rw[HS.out,List.map_append,List.map_append,List.map_singleton,List.map_singleton,HVF.out.1,HVF.out.2];exact HCN.out)⟩
    case measure=>simp[intOf];omega
  · obtain rfl:k=m:=by omega
    have HC2:Hid (RCarAt fv mv (vFs d a) (vMs S d a) w wr):=qq (by have:=HC.out;rw[HM.out] at this;exact this);obtain⟨fa,fc,hfv⟩:=row_slice HC2.out.fs;obtain⟨ma,mc,hmv⟩:=row_slice HC2.out.ms;subst hfv hmv;have HE2:=qq (HEND.out fa fc ma mc wr HC2.out);obtain⟨n1,hn1⟩:∃n,n=(vFs d a).length:=⟨_,rfl⟩
    obtain⟨nm,hnm⟩:∃n,n=(vMs S d a).length:=⟨_,rfl⟩
    rw[←hn1,←hnm] at HE2 HC2;clear hn1 hnm;obtain⟨l1,q1,f1⟩:=HC2.out.out;obtain⟨l0,q0,f0⟩:=HC2.out.res;clear HC;go_wp2_with fail;have hV:=(((HC2.out.res.set' 0 (by simp) (.slice fa n1 fc)).set' 1 (by simp) (.slice ma nm mc)).set' 2 (by simp) (.int .i64 0))
    have hVq:=hV.cell;have hVf:=hV.free;refine bodyPost_ret (v:=.agg #[.slice fa n1 fc,.slice ma nm mc,.int .i64 0]) (by simp[results,Tryz.results53,go_sem,hVq,hVf]) rfl ?_;exact HE2.out
abbrev vseatV (s:SReg):Value:=.agg #[s.seat.p,s.seat.d,s.seat.s,s.seat.h]
abbrev regV (s:SReg):Value:=.agg #[s.n,s.p,s.seat.p,s.seat.d,s.seat.s,s.seat.h]
abbrev vactV (hd:SAct) (r:Value):Value:=.agg #[hd.an,hd.aq,hd.oc,hd.dp,.float .f64 hd.ex,hd.pa,hd.de,r]
abbrev vactC (hd:SAct) (r:Value):Array Value:= #[.int .i64 hd.an,.int .i64 hd.aq,.int .i64 hd.oc,.int .i64 hd.dp,.float .f64 hd.ex,.int .i64 hd.pa,.int .i64 hd.de,r]
def RegAt (w:World) (b o:Nat) (s:SReg):Prop:=w.cell? ⟨b,o,none⟩=some (.int .i64 s.n)∧w.cell? ⟨b,o+1,none⟩=some (.int .i64 s.p)∧w.cell? ⟨b,o+2,none⟩=some (.int .i64 s.seat.p)∧w.cell? ⟨b,o+3,none⟩=some (.int .i64 s.seat.d)∧w.cell? ⟨b,o+4,none⟩=some (.int .i64 s.seat.s)∧w.cell? ⟨b,o+5,none⟩=some (.int .i64 s.seat.h)
theorem RegAt.below {w w':World} {b o:Nat} {s:SReg} (h:RegAt w b o s) (hb:Below w.heap.size w w') (hl:b<w.heap.size):RegAt w' b o s:=
 ⟨(hb.cell (p:=⟨b,o,none⟩) hl).trans h.1,(hb.cell (p:=⟨b,o+1,none⟩) hl).trans h.2.1,(hb.cell (p:=⟨b,o+2,none⟩) hl).trans h.2.2.1,(hb.cell (p:=⟨b,o+3,none⟩) hl).trans h.2.2.2.1,(hb.cell (p:=⟨b,o+4,none⟩) hl).trans h.2.2.2.2.1,(hb.cell (p:=⟨b,o+5,none⟩) hl).trans h.2.2.2.2.2⟩
def RegRow (w:World) (v:Value) (ss:List SReg):Prop:=∃a cap,v=.slice a ss.length cap∧(ss≠[]→∃b off,a=some ⟨b,off,none⟩∧b<w.heap.size∧∀(j:Nat) (h:j<ss.length),RegAt w b (off+j*6) ss[j])
theorem RegRow.below {w w':World} {v:Value} {ss:List SReg} (h:RegRow w v ss) (hb:Below w.heap.size w w'):RegRow w' v ss:=by
 obtain⟨a,cap,rfl,h⟩:=h;refine⟨a,cap,rfl,fun hn=> ?_⟩;obtain⟨b,off,rfl,hl,h⟩:=h hn;exact⟨b,off,rfl,Nat.lt_of_lt_of_le hl hb.size,fun j hj=>(h j hj).below hb hl⟩
theorem index_of (P : Nat) (v : Value) (ss : List SReg) (p : SReg → Bool) (w : World) (hr : RegRow w v ss) (hl : ss.length ≤ 1000)
    (hp:∀W s,Below w.heap.size w W→Calls Tryz.prog 238 #[regV s,.pointer (some ⟨P,0,none⟩)] W (Makes (.bool (p s)) W)):
    Calls Tryz.prog 239 #[v,.func (.func 238) #[] #[.pointer (some ⟨P,0,none⟩)]] w fun e w'=>∃n:Int,e=.returned (.int .i64 n)∧(0≤n↔ss.any p=true)∧Below w.heap.size w w':=by
 obtain⟨a,cap,rfl,hrow⟩:=hr;have HR:=qq hrow;have HP:=qq hp;clear hrow hp;obtain⟨n,hn⟩:∃n,n=ss.length:=⟨_,rfl⟩
 rw[←hn] at hl⊢;have HN:=qq hn;clear hn;go_enter Tryz.func239,Tryz.ntmps239;go_wp2_with fail;go_loopw [8] (fun i wr=>∃k:Nat,k≤n∧i=.int .i64 (k:Nat)∧(∀(j:Nat) (h:j<ss.length),j<k→p ss[j]=false)∧Below w.heap.size w wr) (fun i _=>n - (intOf i).toNat)
 case atStart=>exact⟨0,by omega,by go_num,fun j _ h=>absurd h (by omega),Below.refl _ _⟩
 case round=>
  obtain⟨k,hk,rfl,hbe,hB⟩:=hrel;have HBE:=qq hbe;clear hbe;by_cases hlt:k<n
  · have hks:k<ss.length:=by rw[←HN.out];exact hlt
    obtain⟨b,off,rfl,hbl,hreg⟩:=HR.out (by intro e;rw[e] at hks;simp at hks);obtain⟨s,hs⟩:∃s,s=ss[k]:=⟨_,rfl⟩
    have hat:=(hreg k hks).below hB hbl;rw[←hs] at hat;obtain⟨c0,c1,c2,c3,c4,c5⟩:=hat;have HS:=qq hs;clear hreg hs;have hki:(k:Int)<(n:Int):=by omega
    have hk0:(0:Int)≤(k:Int):=by omega
    obtain⟨t,ht⟩:∃t,t=p s:=⟨_,rfl⟩
    have hc:=fun W hW=>HP.out W s hW
    rw[←ht] at hc;have HT:=qq ht;have HC:=qq hc;clear ht hc;go_wp2_with fail;refine(HC.out _ (below_then hB (by go_grown))).mono ?_;rintro e w1 ⟨rfl,hb1⟩;have hB1:Below w.heap.size w w1:=below_then hB (below_then (by go_grown) hb1)
    cases t with
    | true=>
     go_wp2_with fail;go_ret;refine⟨(k:Int),rfl,⟨fun _=> ?_,fun _=>hk0⟩,hB1⟩;rw[List.any_eq_true];exact⟨s,by rw[HS.out];exact List.getElem_mem _,HT.out.symm⟩
    | false=>
     go_wp2_with fail
     all_goals (go_roundw <;> first | exact ⟨k + 1, by omega, by go_num, fun j h hj => by
         rcases Nat.lt_or_eq_of_le (Nat.le_of_lt_succ hj) with h1 | h1
         · exact HBE.out j h h1
         · subst h1;rw[←HS.out];exact HT.out.symm,hB1⟩ | (simp[intOf];omega))
  · obtain rfl:k=n:=by omega
    go_wp2_with fail;go_ret;refine⟨-1,rfl,⟨fun h=>absurd h (by decide),fun h=> ?_⟩,hB⟩;exfalso;rw[List.any_eq_true] at h;obtain⟨s,hs,hps⟩:=h;obtain⟨j,hj,rfl⟩:=List.getElem_of_mem hs;rw[HBE.out j hj (by rw[HN.out];exact hj)] at hps
    cases hps
theorem contains_of (P : Nat) (v : Value) (ss : List SReg) (p : SReg → Bool) (w : World) (hr : RegRow w v ss) (hl : ss.length ≤ 1000)
    (hp:∀W s,Below w.heap.size w W→Calls Tryz.prog 238 #[regV s,.pointer (some ⟨P,0,none⟩)] W (Makes (.bool (p s)) W)):
    Calls Tryz.prog 174 #[v,.func (.func 238) #[] #[.pointer (some ⟨P,0,none⟩)]] w (Makes (.bool (ss.any p)) w):=by
 have HI:=qq (index_of P v ss p w hr hl hp);obtain⟨a,cap,rfl,_⟩:=hr;obtain⟨t,ht⟩:∃t,t=ss.any p:=⟨_,rfl⟩
 rw[←ht] at HI⊢;clear ht hp hl;go_enter Tryz.func174,Tryz.ntmps174;go_wp2_with fail;refine HI.out.mono ?_;rintro e w1 ⟨n,rfl,hn,hb1⟩;go_wp2_with fail;go_ret;exact⟨ret_bool (by first | rfl | (rw[Bool.eq_iff_iff];simpa using hn)),hb1⟩
def qReady (s:SReg):Bool:=decide (s.seat.s=5) || decide (s.seat.h=1)
def qOver (s:SReg):Bool:=decide (s.seat.s=14)
def qCloses (s:SReg):Bool:=decide (s.seat.h=7) || decide (s.seat.s=6)
def qUndoes (s:SReg):Bool:=decide (s.seat.s=7) || decide (s.seat.s=2) || decide (s.seat.s=3) || decide (s.seat.h=8) || decide (s.seat.h=6)
theorem qReady_of (s:SReg) (w:World):Calls Tryz.prog 233 #[vseatV s] w (Makes (.bool (qReady s)) w):=by
 obtain⟨rn,rp,⟨p,d,st,h⟩⟩:=s;unfold qReady;dsimp only[vseatV];go_enter Tryz.func233,Tryz.ntmps233;go_wp2
 all_goals go_ret
 all_goals (refine⟨ret_bool ?_,by go_grown⟩;first | rfl | (simp_all;done) | (rw[Bool.eq_iff_iff];simp_all;done) | (rw[Bool.eq_iff_iff];simp_all;omega))
theorem qOver_of (s:SReg) (w:World):Calls Tryz.prog 234 #[vseatV s] w (Makes (.bool (qOver s)) w):=by
 obtain⟨rn,rp,⟨p,d,st,h⟩⟩:=s;unfold qOver;dsimp only[vseatV];go_enter Tryz.func234,Tryz.ntmps234;go_wp2
 all_goals go_ret
 all_goals (refine⟨ret_bool ?_,by go_grown⟩;first | rfl | (simp_all;done) | (rw[Bool.eq_iff_iff];simp_all;done) | (rw[Bool.eq_iff_iff];simp_all;omega))
theorem qCloses_of (s:SReg) (w:World):Calls Tryz.prog 159 #[vseatV s] w (Makes (.bool (qCloses s)) w):=by
 obtain⟨rn,rp,⟨p,d,st,h⟩⟩:=s;unfold qCloses;dsimp only[vseatV];go_enter Tryz.func159,Tryz.ntmps159;go_wp2
 all_goals go_ret
 all_goals (refine⟨ret_bool ?_,by go_grown⟩;first | rfl | (simp_all;done) | (rw[Bool.eq_iff_iff];simp_all;done) | (rw[Bool.eq_iff_iff];simp_all;omega))
theorem qUndoes_of (s:SReg) (w:World):Calls Tryz.prog 160 #[vseatV s] w (Makes (.bool (qUndoes s)) w):=by
 obtain⟨rn,rp,⟨p,d,st,h⟩⟩:=s;unfold qUndoes;dsimp only[vseatV];go_enter Tryz.func160,Tryz.ntmps160;go_wp2
 all_goals go_ret
 all_goals (refine⟨ret_bool ?_,by go_grown⟩;first | rfl | (simp_all;done) | (rw[Bool.eq_iff_iff];simp_all;done) | (rw[Bool.eq_iff_iff];simp_all;omega))
theorem every1_ready (P : Nat) (s : SReg) (q : Bool) (w : World) (hP : Blk w P #[.func (.func 233) #[] #[]]) (hq : ∀ W, Calls Tryz.prog 233 #[vseatV s] W (Makes (.bool q) W)) :
    Calls Tryz.prog 238 #[regV s,.pointer (some ⟨P,0,none⟩)] w (Makes (.bool (!q)) w):=by
 have h1:w.cell? ⟨P,0,none⟩=some (.func (.func 233) #[] #[]):=hP.cell 0;have hl:=hP.lt;have h2:∀o,(w.alloc o).cell? ⟨P,0,none⟩=some (.func (.func 233) #[] #[]):=fun o=>(hP.alloc o).cell 0
 have HQ:=qq hq;clear hP hq;dsimp only[regV,vseatV] at*;go_enter Tryz.func238,Tryz.ntmps238;go_wp2_with fail;refine(HQ.out _).mono ?_;rintro e w1 ⟨rfl,hb1⟩
 cases q<;>go_wp2_with fail
 all_goals go_ret
 all_goals exact⟨ret_bool (by simp),below_then (by go_grown) hb1⟩
theorem every1_over (P : Nat) (s : SReg) (q : Bool) (w : World) (hP : Blk w P #[.func (.func 234) #[] #[]]) (hq : ∀ W, Calls Tryz.prog 234 #[vseatV s] W (Makes (.bool q) W)) :
    Calls Tryz.prog 238 #[regV s,.pointer (some ⟨P,0,none⟩)] w (Makes (.bool (!q)) w):=by
 have h1:w.cell? ⟨P,0,none⟩=some (.func (.func 234) #[] #[]):=hP.cell 0;have hl:=hP.lt;have h2:∀o,(w.alloc o).cell? ⟨P,0,none⟩=some (.func (.func 234) #[] #[]):=fun o=>(hP.alloc o).cell 0
 have HQ:=qq hq;clear hP hq;dsimp only[regV,vseatV] at*;go_enter Tryz.func238,Tryz.ntmps238;go_wp2_with fail;refine(HQ.out _).mono ?_;rintro e w1 ⟨rfl,hb1⟩
 cases q<;>go_wp2_with fail
 all_goals go_ret
 all_goals exact⟨ret_bool (by simp),below_then (by go_grown) hb1⟩
theorem every1_uni (P : Nat) (s : SReg) (q : Bool) (w : World) (Z : Nat) (hP : Blk w P #[.func (.func 158) #[] #[.pointer (some ⟨Z, 0, none⟩)]]) (hq : ∀ W, Below w.heap.size w W → Calls Tryz.prog 158 #[vseatV s, .pointer (some ⟨Z, 0, none⟩)] W (Makes (.bool q) W)) :
    Calls Tryz.prog 238 #[regV s,.pointer (some ⟨P,0,none⟩)] w (Makes (.bool (!q)) w):=by
 have h1:w.cell? ⟨P,0,none⟩=some (.func (.func 158) #[] #[.pointer (some ⟨Z,0,none⟩)]):=hP.cell 0;have hl:=hP.lt;have h2:∀o,(w.alloc o).cell? ⟨P,0,none⟩=some (.func (.func 158) #[] #[.pointer (some ⟨Z,0,none⟩)]):=fun o=>(hP.alloc o).cell 0
 have HQ:=qq hq;clear hP hq;dsimp only[regV,vseatV] at*;go_enter Tryz.func238,Tryz.ntmps238;go_wp2_with fail;refine(HQ.out _ (by go_grown)).mono ?_;rintro e w1 ⟨rfl,hb1⟩
 cases q<;>go_wp2_with fail
 all_goals go_ret
 all_goals exact⟨ret_bool (by simp),below_then (by go_grown) hb1⟩
theorem uni11_closes (Z:Nat) (s:SReg) (w:World) (hZ:Blk w Z #[.func (.func 159) #[] #[]]):Calls Tryz.prog 158 #[vseatV s,.pointer (some ⟨Z,0,none⟩)] w (Makes (.bool (!qCloses s)) w):=by
 have HQ:=qq (fun W=>qCloses_of s W);have h1:w.cell? ⟨Z,0,none⟩=some (.func (.func 159) #[] #[]):=hZ.cell 0;have h2:∀o,(w.alloc o).cell? ⟨Z,0,none⟩=some (.func (.func 159) #[] #[]):=fun o=>(hZ.alloc o).cell 0
 have hl:=hZ.lt;obtain⟨q,hq⟩:∃q,q=qCloses s:=⟨_,rfl⟩
 rw[←hq] at HQ⊢;clear hZ hq;dsimp only[vseatV] at*;go_enter Tryz.func158,Tryz.ntmps158;go_wp2_with fail;refine(HQ.out _).mono ?_;rintro e w1 ⟨rfl,hb1⟩
 cases q<;>go_wp2_with fail
 all_goals go_ret
 all_goals exact⟨ret_bool (by simp),below_then (by go_grown) hb1⟩
theorem uni11_undoes (Z:Nat) (s:SReg) (w:World) (hZ:Blk w Z #[.func (.func 160) #[] #[]]):Calls Tryz.prog 158 #[vseatV s,.pointer (some ⟨Z,0,none⟩)] w (Makes (.bool (!qUndoes s)) w):=by
 have HQ:=qq (fun W=>qUndoes_of s W);have h1:w.cell? ⟨Z,0,none⟩=some (.func (.func 160) #[] #[]):=hZ.cell 0;have h2:∀o,(w.alloc o).cell? ⟨Z,0,none⟩=some (.func (.func 160) #[] #[]):=fun o=>(hZ.alloc o).cell 0
 have hl:=hZ.lt;obtain⟨q,hq⟩:∃q,q=qUndoes s:=⟨_,rfl⟩
 rw[←hq] at HQ⊢;clear hZ hq;dsimp only[vseatV] at*;go_enter Tryz.func158,Tryz.ntmps158;go_wp2_with fail;refine(HQ.out _).mono ?_;rintro e w1 ⟨rfl,hb1⟩
 cases q<;>go_wp2_with fail
 all_goals go_ret
 all_goals exact⟨ret_bool (by simp),below_then (by go_grown) hb1⟩
theorem every_ready (hd:SAct) (v:Value) (ss:List SReg) (w:World) (hr:RegRow w v ss) (hl:ss.length≤1000):Calls Tryz.prog 157 #[vactV hd v,.func (.func 233) #[] #[]] w (Makes (.bool (ss.all qReady)) w):=by
 have hB:Below w.heap.size w ((w.alloc (.cells (vactC hd v) 51)).alloc (.cells #[.func (.func 233) #[] #[]] 243)):=((Below.refl _ _).alloc (Nat.le_refl _) _).alloc (by simp) _
 have HC:=qq (contains_of (w.heap.size+1) v ss (fun s=> !(qReady s)) _ (hr.below hB) hl (fun W s hW=>every1_ready _ s (qReady s) W ((Blk.fresh (w.alloc (.cells (vactC hd v) 51)) #[.func (.func 233) #[] #[]] 243 _ (by simp)).below hW) (fun W2=>qReady_of s W2)));obtain⟨a,cap,rfl,_⟩:=hr;have hq:(!(ss.any fun s=> !(qReady s)))=ss.all qReady:=by rw[List.not_any_eq_all_not];simp
 obtain⟨t,ht⟩:∃t,t=ss.any (fun s=> !(qReady s)):=⟨_,rfl⟩
 rw[←ht] at HC hq;have HQ:=qq hq;clear hq ht hl;dsimp only[vactV,vactC] at*;go_enter Tryz.func157,Tryz.ntmps157;go_wp2_with fail;refine HC.out.mono ?_;rintro e w1 ⟨rfl,hb1⟩
 cases t<;>go_wp2_with fail
 all_goals go_ret
 all_goals exact⟨ret_bool (by rw[←HQ.out];simp),below_then hB hb1⟩
theorem every_over (hd:SAct) (v:Value) (ss:List SReg) (w:World) (hr:RegRow w v ss) (hl:ss.length≤1000):Calls Tryz.prog 157 #[vactV hd v,.func (.func 234) #[] #[]] w (Makes (.bool (ss.all qOver)) w):=by
 have hB:Below w.heap.size w ((w.alloc (.cells (vactC hd v) 51)).alloc (.cells #[.func (.func 234) #[] #[]] 243)):=((Below.refl _ _).alloc (Nat.le_refl _) _).alloc (by simp) _
 have HC:=qq (contains_of (w.heap.size+1) v ss (fun s=> !(qOver s)) _ (hr.below hB) hl (fun W s hW=>every1_over _ s (qOver s) W ((Blk.fresh (w.alloc (.cells (vactC hd v) 51)) #[.func (.func 234) #[] #[]] 243 _ (by simp)).below hW) (fun W2=>qOver_of s W2)));obtain⟨a,cap,rfl,_⟩:=hr;have hq:(!(ss.any fun s=> !(qOver s)))=ss.all qOver:=by rw[List.not_any_eq_all_not];simp
 obtain⟨t,ht⟩:∃t,t=ss.any (fun s=> !(qOver s)):=⟨_,rfl⟩
 rw[←ht] at HC hq;have HQ:=qq hq;clear hq ht hl;dsimp only[vactV,vactC] at*;go_enter Tryz.func157,Tryz.ntmps157;go_wp2_with fail;refine HC.out.mono ?_;rintro e w1 ⟨rfl,hb1⟩
 cases t<;>go_wp2_with fail
 all_goals go_ret
 all_goals exact⟨ret_bool (by rw[←HQ.out];simp),below_then hB hb1⟩
theorem every_uni_closes (hd:SAct) (v:Value) (ss:List SReg) (w:World) (Z:Nat) (hZ:Blk w Z #[.func (.func 159) #[] #[]]) (hr:RegRow w v ss) (hl:ss.length≤1000):Calls Tryz.prog 157 #[vactV hd v,.func (.func 158) #[] #[.pointer (some ⟨Z,0,none⟩)]] w (Makes (.bool (ss.all (fun s=> !(qCloses s)))) w):=by
 have hB:Below w.heap.size w ((w.alloc (.cells (vactC hd v) 51)).alloc (.cells #[.func (.func 158) #[] #[.pointer (some ⟨Z,0,none⟩)]] 243)):=((Below.refl _ _).alloc (Nat.le_refl _) _).alloc (by simp) _
 have HC:=qq (contains_of (w.heap.size+1) v ss (fun s=> !((fun s=> !(qCloses s)) s)) _ (hr.below hB) hl (fun W s hW=>every1_uni _ s (!qCloses s) W Z ((Blk.fresh (w.alloc (.cells (vactC hd v) 51)) #[.func (.func 158) #[] #[.pointer (some ⟨Z,0,none⟩)]] 243 _ (by simp)).below hW) (fun W2 hW2=>uni11_closes Z s W2 ((hZ.below hB).below hW |>.below hW2))));obtain⟨a,cap,rfl,_⟩:=hr
 have hq:(!(ss.any fun s=> !((fun s=> !(qCloses s)) s)))=ss.all (fun s=> !(qCloses s)):=by rw[List.not_any_eq_all_not];simp
 obtain⟨t,ht⟩:∃t,t=ss.any (fun s=> !((fun s=> !(qCloses s)) s)):=⟨_,rfl⟩
 rw[←ht] at HC hq;have HQ:=qq hq;clear hq ht hl;dsimp only[vactV,vactC] at*;go_enter Tryz.func157,Tryz.ntmps157;go_wp2_with fail;refine HC.out.mono ?_;rintro e w1 ⟨rfl,hb1⟩
 cases t<;>go_wp2_with fail
 all_goals go_ret
 all_goals exact⟨ret_bool (by rw[←HQ.out];simp),below_then hB hb1⟩
theorem every_uni_undoes (hd:SAct) (v:Value) (ss:List SReg) (w:World) (Z:Nat) (hZ:Blk w Z #[.func (.func 160) #[] #[]]) (hr:RegRow w v ss) (hl:ss.length≤1000):Calls Tryz.prog 157 #[vactV hd v,.func (.func 158) #[] #[.pointer (some ⟨Z,0,none⟩)]] w (Makes (.bool (ss.all (fun s=> !(qUndoes s)))) w):=by
 have hB:Below w.heap.size w ((w.alloc (.cells (vactC hd v) 51)).alloc (.cells #[.func (.func 158) #[] #[.pointer (some ⟨Z,0,none⟩)]] 243)):=((Below.refl _ _).alloc (Nat.le_refl _) _).alloc (by simp) _
 have HC:=qq (contains_of (w.heap.size+1) v ss (fun s=> !((fun s=> !(qUndoes s)) s)) _ (hr.below hB) hl (fun W s hW=>every1_uni _ s (!qUndoes s) W Z ((Blk.fresh (w.alloc (.cells (vactC hd v) 51)) #[.func (.func 158) #[] #[.pointer (some ⟨Z,0,none⟩)]] 243 _ (by simp)).below hW) (fun W2 hW2=>uni11_undoes Z s W2 ((hZ.below hB).below hW |>.below hW2))));obtain⟨a,cap,rfl,_⟩:=hr
 have hq:(!(ss.any fun s=> !((fun s=> !(qUndoes s)) s)))=ss.all (fun s=> !(qUndoes s)):=by rw[List.not_any_eq_all_not];simp
 obtain⟨t,ht⟩:∃t,t=ss.any (fun s=> !((fun s=> !(qUndoes s)) s)):=⟨_,rfl⟩
 rw[←ht] at HC hq;have HQ:=qq hq;clear hq ht hl;dsimp only[vactV,vactC] at*;go_enter Tryz.func157,Tryz.ntmps157;go_wp2_with fail;refine HC.out.mono ?_;rintro e w1 ⟨rfl,hb1⟩
 cases t<;>go_wp2_with fail
 all_goals go_ret
 all_goals exact⟨ret_bool (by rw[←HQ.out];simp),below_then hB hb1⟩
theorem vready_of (hd:SAct) (v:Value) (ss:List SReg) (w:World) (hr:RegRow w v ss) (hl:ss.length≤1000):Calls Tryz.prog 149 #[vactV hd v] w (Makes (.bool (ss.all qReady)) w):=by
 have hB:Below w.heap.size w (w.alloc (.cells (vactC hd v) 51)):=(Below.refl _ _).alloc (Nat.le_refl _) _;have HC:=qq (every_ready hd v ss _ (hr.below hB) hl);obtain⟨a,cap,rfl,_⟩:=hr;clear hl;dsimp only[vactV,vactC] at*;go_enter Tryz.func149,Tryz.ntmps149;go_wp2_with fail;refine HC.out.mono ?_;rintro e w1 ⟨rfl,hb1⟩;go_wp2_with fail;go_ret;exact⟨rfl,below_then hB hb1⟩
theorem vover_of (hd:SAct) (v:Value) (ss:List SReg) (w:World) (hr:RegRow w v ss) (hl:ss.length≤1000):Calls Tryz.prog 150 #[vactV hd v] w (Makes (.bool (ss.all qOver)) w):=by
 have hB:Below w.heap.size w (w.alloc (.cells (vactC hd v) 51)):=(Below.refl _ _).alloc (Nat.le_refl _) _;have HC:=qq (every_over hd v ss _ (hr.below hB) hl);obtain⟨a,cap,rfl,_⟩:=hr;clear hl;dsimp only[vactV,vactC] at*;go_enter Tryz.func150,Tryz.ntmps150;go_wp2_with fail;refine HC.out.mono ?_;rintro e w1 ⟨rfl,hb1⟩;go_wp2_with fail;go_ret;exact⟨rfl,below_then hB hb1⟩
theorem uni1_closes (A:Nat) (hd:SAct) (v:Value) (ss:List SReg) (w:World) (hr:RegRow w v ss) (hl:ss.length≤1000) (hA:Blk w A (vactC hd v)):Calls Tryz.prog 156 #[.func (.func 159) #[] #[],.pointer (some ⟨A,0,none⟩)] w (Makes (.bool (ss.all fun s=> !(qCloses s))) w):=by
 have hmf:∀(fn:Fn) (first cap:Array Value) (w:World),(Instr.makeFunc fn first cap).run Tryz.prog w=.ok (.func fn first cap) w:=fun _ _ _ _=>rfl
 have hB:Below w.heap.size w (w.alloc (.cells #[.func (.func 159) #[] #[]] 243)):=(Below.refl _ _).alloc (Nat.le_refl _) _;have HC:=qq (every_uni_closes hd v ss _ w.heap.size (Blk.fresh w _ _ _ rfl) (hr.below hB) hl);obtain⟨a,cap,rfl,_⟩:=hr;have q0:=fun o=>(hA.alloc o).cell
 have hAl:=hA.lt;clear hl hA;dsimp only[vactV,vactC] at*;go_enter Tryz.func156,Tryz.ntmps156;go_wp2_with fail;refine HC.out.mono ?_;rintro e w1 ⟨rfl,hb1⟩;go_wp2_with fail;go_ret;exact⟨rfl,below_then hB hb1⟩
theorem uni1_undoes (A:Nat) (hd:SAct) (v:Value) (ss:List SReg) (w:World) (hr:RegRow w v ss) (hl:ss.length≤1000) (hA:Blk w A (vactC hd v)):Calls Tryz.prog 156 #[.func (.func 160) #[] #[],.pointer (some ⟨A,0,none⟩)] w (Makes (.bool (ss.all fun s=> !(qUndoes s))) w):=by
 have hmf:∀(fn:Fn) (first cap:Array Value) (w:World),(Instr.makeFunc fn first cap).run Tryz.prog w=.ok (.func fn first cap) w:=fun _ _ _ _=>rfl
 have hB:Below w.heap.size w (w.alloc (.cells #[.func (.func 160) #[] #[]] 243)):=(Below.refl _ _).alloc (Nat.le_refl _) _;have HC:=qq (every_uni_undoes hd v ss _ w.heap.size (Blk.fresh w _ _ _ rfl) (hr.below hB) hl);obtain⟨a,cap,rfl,_⟩:=hr;have q0:=fun o=>(hA.alloc o).cell
 have hAl:=hA.lt;clear hl hA;dsimp only[vactV,vactC] at*;go_enter Tryz.func156,Tryz.ntmps156;go_wp2_with fail;refine HC.out.mono ?_;rintro e w1 ⟨rfl,hb1⟩;go_wp2_with fail;go_ret;exact⟨rfl,below_then hB hb1⟩
theorem vuniform_of (hd:SAct) (v:Value) (ss:List SReg) (w:World) (hr:RegRow w v ss) (hl:ss.length≤1000):Calls Tryz.prog 60 #[vactV hd v] w (Makes (.bool ((ss.all fun s=> !(qCloses s)) || (ss.all fun s=> !(qUndoes s)))) w):=by
 have hmf:∀(fn:Fn) (first cap:Array Value) (w:World),(Instr.makeFunc fn first cap).run Tryz.prog w=.ok (.func fn first cap) w:=fun _ _ _ _=>rfl
 have hB:Below w.heap.size w (w.alloc (.cells (vactC hd v) 51)):=(Below.refl _ _).alloc (Nat.le_refl _) _;have H1:=qq (uni1_closes w.heap.size hd v ss _ (hr.below hB) hl (Blk.fresh w _ _ _ rfl));have H2:=qq (fun W hW=>uni1_undoes w.heap.size hd v ss W ((hr.below hB).below hW) hl ((Blk.fresh w (vactC hd v) 51 _ rfl).below hW));obtain⟨a,cap,rfl,_⟩:=hr
 obtain⟨t,ht⟩:∃t,t=ss.all (fun s=> !(qCloses s)):=⟨_,rfl⟩
 obtain⟨u,hu⟩:∃u,u=ss.all (fun s=> !(qUndoes s)):=⟨_,rfl⟩
 rw[←ht] at H1⊢;rw[←hu] at H2⊢;clear hl ht hu;dsimp only[vactV,vactC] at*;go_enter Tryz.func60,Tryz.ntmps60;go_wp2_with fail;refine H1.out.mono ?_;rintro e w1 ⟨rfl,hb1⟩
 cases t with
 | true=>
  go_wp2_with fail;go_ret;exact⟨ret_bool (by simp),below_then hB hb1⟩
 | false=>
  go_wp2_with fail;refine(H2.out _ hb1).mono ?_;rintro e w2 ⟨rfl,hb2⟩;go_wp2_with fail;go_ret;exact⟨ret_bool (by simp),below_then (below_then hB hb1) hb2⟩
def DirEnds (ea:Int→Addr) (r:SRes) (n:Int) (w:World) (e:Ending) (w':World):Prop:=∃a c b d,e=.returned (.tuple #[.agg #[.slice a r.fs.length c,.slice b r.ms.length d,r.wk],errOf ea n])∧ReadR w.heap.size w' (.slice a r.fs.length c) (.slice b r.ms.length d) r∧Below w.heap.size w w'
end Go.Proofs.YtlkajejbfojkeaaGreatDoor
