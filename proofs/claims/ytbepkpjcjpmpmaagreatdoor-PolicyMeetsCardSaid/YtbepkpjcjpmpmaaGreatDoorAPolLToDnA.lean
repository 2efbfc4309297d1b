/- PolL, PolM, DnA -/
import Derived.Test.YtbepkpjcjpmpmaaGreatDoorAPolK
set_option linter.unusedSimpArgs false
set_option linter.unusedVariables false
set_option maxRecDepth 100000
set_option maxHeartbeats 16000000
namespace Go.Proofs.YtbepkpjcjpmpmaaGreatDoor
open Go.RowKit Go.Shelf
theorem catch_idle_nn (d x e : Addr) (w : World) (hd : w.cell? d = some (.bool true)) :
    CallsD Tryz.prog 51 #[.pointer (some d),.pointer (some x),.pointer (some e)] .returning w fun en u' w'=>en=.returned (.tuple #[])∧u'=.returning∧w'=w:=by
 refine callsD_of_wpS Tryz.func51 rfl fun c₀ cs hu=> ?_
 apply wpS_seq;apply wpS_region;simp[wpOpsS,go_sem,recoverD,hu,Tryz.ntmps51,Exit.thenS];apply wpS_seq;apply wpS_region;simp[wpOpsS,go_sem,hd,Exit.thenS];refine wpS_cond (t:=false) (by simp[Act.eval,Array.replicate]) ?_;simp only[Bool.false_eq_true,if_false];refine wpS_of_wp (wp_skip ?_)
 cases c₀
 simp_all [bodyPostS,results,Tryz.results51]
theorem catch_took_nn (D X E : Nat) (v0 : Value) (n : Int) (hn : 1 ≤ n ∧ n ≤ 14) (ea : Int → Addr) (older : List PanicEntry) (w : World) (hd : Blk w D #[.bool false]) (hx : Blk w X #[v0]) (hz : Blk w E #[.nilIface]) (hne : X ≠ E) (he : Errs ea w) :
    CallsD Tryz.prog 51 #[.pointer (some ⟨D,0,none⟩),.pointer (some ⟨X,0,none⟩),.pointer (some ⟨E,0,none⟩)] (.panicking ({v:=errV (ea n),recovered:=false}::older)) w fun en u' w'=>
     en=.returned (.tuple #[])∧u'=.panicking ({v:=errV (ea n),recovered:=true}::older)∧∃w1,Below w.heap.size w w1∧w'=(w1.setCell ⟨X,0,none⟩ (.slice none 0 0)).setCell ⟨E,0,none⟩ (errV (ea n)):=by
 have HT:=qq (fun W hW=>told_of n hn ea W hW);have HE:=qq he;have hd0:w.cell? ⟨D,0,none⟩=some (.bool false):=hd.cell 0;have HX:=qq hx;have HZ:=qq hz;have hne2:E≠X:=fun e=>hne e.symm
 clear he hd hx hz hn;refine callsD_of_wpS Tryz.func51 rfl fun c₀ cs hu=> ?_
 apply wpS_seq;apply wpS_region;simp[wpOpsS,go_sem,recoverD,hu,Tryz.ntmps51,Exit.thenS];apply wpS_seq;apply wpS_region;simp[wpOpsS,go_sem,hd0,Exit.thenS];refine wpS_cond (t:=true) (by simp[Act.eval,Array.replicate]) ?_;simp only[if_true];refine wpS_of_wp ?_
 go_wp2_with (go_at_call 52;refine(HT.out _ HE.out).mono ?_;rintro e w1 ⟨rfl,hb1⟩;have HX1:=HX.out.below hb1;have HZ1:=HZ.out.below hb1;have x0:w1.cell? ⟨X,0,none⟩=some v0:=HX1.cell 0;have x1:=HX1.free 0;have z0:w1.cell? ⟨E,0,none⟩=some .nilIface:=HZ1.cell 0;have z1:=HZ1.free 0;clear HX1 HZ1);simp[bodyPostS,results,Tryz.results51];exact⟨w1,hb1,rfl⟩
theorem try_gives_normal (p : Addr) (Rl : Value → World → Prop) (w : World) (h : ∀ W, Below w.heap.size w W → w.heap.size + 3 ≤ W.heap.size → Calls Tryz.prog 30 #[.pointer (some p)] W (fun e w' => ∃ a n c, e = .returned (.slice a n c) ∧ Rl (.slice a n c) w' ∧ Below W.heap.size W w'))
    (hR:∀v (W W':World),Rl v W→W.heap.size≤W'.heap.size→(∀k,k<w.heap.size∨w.heap.size+3≤k→W'.heap[k]? =W.heap[k]?)→Rl v W'):
    Calls Tryz.prog 29 #[.func (.func 30) #[] #[.pointer (some p)]] w (fun e w'=>∃a n c,e=.returned (.tuple #[.slice a n c,.nilIface])∧Rl (.slice a n c) w'∧Below w.heap.size w w'):=by
 have hmf:∀(fn:Fn) (first cap:Array Value) (w:World),(Instr.makeFunc fn first cap).run Tryz.prog w=.ok (.func fn first cap) w:=fun _ _ _ _=>rfl
 have H:=qq h;have HRL:=qq hR;clear h hR;go_enter_defers Tryz.func29,Tryz.ntmps29;go_wp2_with fail;refine(H.out _ (by go_grown) (by simp)).mono ?_;rintro e w1 ⟨va,vn,vc,rfl,hrl,hb1⟩;have HX:=(((Blk.fresh w #[.slice none 0 0] 29 _ rfl).below (by go_grown)).below hb1:Blk w1 w.heap.size _)
 have HE:=(((Blk.fresh (w.alloc (.cells #[.slice none 0 0] 29)) #[.nilIface] 31 (w.heap.size+1) (by simp)).below (by go_grown)).below hb1:Blk w1 (w.heap.size+1) _)
 have HD:=((Blk.fresh ((w.alloc (.cells #[.slice none 0 0] 29)).alloc (.cells #[.nilIface] 31)) #[.bool false] 4 (w.heap.size+1+1) (by simp)).below hb1:Blk w1 (w.heap.size+1+1) _)
 have x0:w1.cell? ⟨w.heap.size,0,none⟩=some (.slice none 0 0):=HX.cell 0;have x1:=HX.free 0;have e0:w1.cell? ⟨w.heap.size+1,0,none⟩=some .nilIface:=HE.cell 0;have e1:=HE.free 0;have d0:w1.cell? ⟨w.heap.size+1+1,0,none⟩=some (.bool false):=HD.cell 0;have d1:=HD.free 0;clear HX HE HD;have HB:Below w.heap.size w w1:=below_then (by go_grown) hb1;have HRR:=qq hrl;clear hrl;go_wp2_with fail
 refine leaves_cons (f:=51) (args:= #[.pointer (some ⟨w.heap.size+1+1,0,none⟩),.pointer (some ⟨w.heap.size,0,none⟩),.pointer (some ⟨w.heap.size+1,0,none⟩)]) (by simp) (by simp[go_sem]) ?_;refine(catch_idle_nn _ _ _ _ (by simp[go_sem,d0,x0,e0])).mono ?_;rintro e u' w'' ⟨rfl,rfl,rfl⟩;simp[Leaves,settle,results,Tryz.results29,go_sem,d0,x0,e0,d1,x1,e1]
 refine⟨va,vn,vc,⟨rfl,rfl,rfl⟩,HRL.out _ _ _ HRR.out (by simp) (fun k hk=> ?_),(((HB.setCell (p:=⟨w.heap.size,0,none⟩) (Nat.le_refl _) _).setCell (p:=⟨w.heap.size+1+1,0,none⟩) (by dsimp only;omega) _).setCell (p:=⟨w.heap.size,0,none⟩) (Nat.le_refl _) _).setCell (p:=⟨w.heap.size+1,0,none⟩) (by dsimp only;omega) _⟩
 rw[Below.heap_setCell _ _ _ _ (by(try dsimp only);omega),Below.heap_setCell _ _ _ _ (by(try dsimp only);omega),Below.heap_setCell _ _ _ _ (by(try dsimp only);omega),Below.heap_setCell _ _ _ _ (by(try dsimp only);omega)]
theorem try_dies_normal (p : Addr) (n : Int) (hn : 1 ≤ n ∧ n ≤ 14) (ea : Int → Addr) (w : World) (he : Errs ea w) (h : ∀ W, Below w.heap.size w W → Calls Tryz.prog 30 #[.pointer (some p)] W (Fails (errV (ea n)) W)) :
    Calls Tryz.prog 29 #[.func (.func 30) #[] #[.pointer (some p)]] w (Makes (.tuple #[.slice none 0 0,errV (ea n)]) w):=by
 have hmf:∀(fn:Fn) (first cap:Array Value) (w:World),(Instr.makeFunc fn first cap).run Tryz.prog w=.ok (.func fn first cap) w:=fun _ _ _ _=>rfl
 have H:=qq h;have HR:=qq he;clear h he;go_enter_defers Tryz.func29,Tryz.ntmps29;go_wp2_with fail;refine(H.out _ (by go_grown)).mono ?_;rintro e w1 ⟨rfl,hb1⟩;have HB:Below w.heap.size w w1:=below_then (by go_grown) hb1;have HX:=(((Blk.fresh w #[.slice none 0 0] 29 _ rfl).below (by go_grown)).below hb1:Blk w1 w.heap.size _)
 have HE:=(((Blk.fresh (w.alloc (.cells #[.slice none 0 0] 29)) #[.nilIface] 31 (w.heap.size+1) (by simp)).below (by go_grown)).below hb1:Blk w1 (w.heap.size+1) _)
 have HD:=((Blk.fresh ((w.alloc (.cells #[.slice none 0 0] 29)).alloc (.cells #[.nilIface] 31)) #[.bool false] 4 (w.heap.size+1+1) (by simp)).below hb1:Blk w1 (w.heap.size+1+1) _)
 have HER:=HR.out.below HB;refine leaves_cons (f:=51) (args:= #[.pointer (some ⟨w.heap.size+1+1,0,none⟩),.pointer (some ⟨w.heap.size,0,none⟩),.pointer (some ⟨w.heap.size+1,0,none⟩)]) (by simp) (by simp[go_sem]) ?_;refine(catch_took_nn _ _ _ _ n hn ea _ _ HD HX HE (by omega) HER).mono ?_;rintro e u' w'' ⟨rfl,rfl,w2,hb2,rfl⟩;have x0:w1.cell? ⟨w.heap.size,0,none⟩=some (.slice none 0 0):=HX.cell 0
 have hx2:=HX.below hb2;have he2:=HE.below hb2;have x2:w2.cell? ⟨w.heap.size,0,none⟩=some (.slice none 0 0):=hx2.cell 0;have e2:w2.cell? ⟨w.heap.size+1,0,none⟩=some .nilIface:=he2.cell 0;have x3:=hx2.free 0;have e3:=he2.free 0;simp[Leaves,settle,results,Tryz.results29,go_sem,x2,e2,x3,e3]
 exact⟨rfl,((HB.trans (hb2.mono HB.size)).setCell (p:=⟨w.heap.size,0,none⟩) (Nat.le_refl _) _).setCell (p:=⟨w.heap.size+1,0,none⟩) (by dsimp only;omega) _⟩
theorem infoNames:(Tryz.prog.info? 49).map (fun i=>(i.zero,i.size,i.bytes))=some (some (.slice none 0 0),1,24):=by kernel_rfl
theorem snoc2 {T:TypeId} (hT:T≠9) {w w1:World} {B B2 n:Nat} {v x:Value} {o:List PAlt} {vs:Array Value} {s:PAlt} (hrow:w.ownsRow B T 1 v n vs.toList) (hA:Alts B2 w vs o.toArray) (hx:AltV B2 w x s) (hg:w.grownBy w1 v.ownBlock):Alts B2 w1 (vs.push x) (o ++ [s]).toArray:=by
 have hsz:vs.size=o.length:=by have:=hA.1;simpa using this
 refine⟨by simp[hsz],fun i hi=> ?_⟩;have hi':i<o.length+1:=by simpa using hi
 by_cases h:i<o.length
 · have e1:(vs.push x)[i]! =vs[i]! :=by
    rw[getElem!_pos _ i (by simp;omega),getElem!_pos vs i (by omega)];simp[Array.getElem_push,hsz,h]
   have e2:(o ++ [s]).toArray[i]! =o.toArray[i]! :=by
    rw[getElem!_pos _ i (by simp;omega),getElem!_pos o.toArray i (by simpa using h)];simp[List.getElem_append,h]
   rw[e1,e2];exact alt_gro hT (hA.2 i (by simpa using h)) hg hrow
 · obtain rfl:i=o.length:=by omega
   have e1:(vs.push x)[o.length]! =x:=by
    rw[getElem!_pos _ _ (by simp[hsz])];simp[Array.getElem_push,hsz]
   have e2:(o ++ [s]).toArray[o.length]! =s:=by
    rw[getElem!_pos _ _ (by simp)];simp
   rw[e1,e2];exact alt_gro hT hx hg hrow
theorem normal1_no (e : PE) (a : Option Addr) (c B E p : Nat) (ea : Int → Addr) (w : World) (hs : e.kids.sz < 250) (hK : KC B E w e.kids a) (hE : E ≤ w.heap.size) (hEA : Errs ea w) (hp : Blk w p (exA e a c)) (hno : pNorm e = none) :
    Calls Tryz.prog 30 #[.pointer (some ⟨p,0,none⟩)] w (Fails (errV (ea 6)) w):=by
 have HC:=qq (normal_go 250 e a c B E ea w hs (by omega) hK hE hEA);rw[hno] at HC;have c0:w.cell? ⟨p,0,none⟩=some (.int .i64 e.op):=hp.cell 0;have c1:w.cell? ⟨p,1,none⟩=some (.string ⟨e.nm.toArray⟩):=hp.cell 1;have c2:w.cell? ⟨p,2,none⟩=some (.bool e.opt):=hp.cell 2;have c3:w.cell? ⟨p,3,none⟩=some (.slice a e.kids.len c):=hp.cell 3;have hlt:=hp.lt;obtain⟨op,nm,opt,kids⟩:=e
 dsimp only at c0 c1 c2 c3 HC;clear hs hK hE hEA hp hno;go_enter Tryz.func30,Tryz.ntmps30;go_wp2_with fail;refine HC.out.mono ?_;rintro e w1 ⟨_,hno⟩;obtain⟨rfl,hb⟩:=hno rfl;exact⟨rfl,rfl,hb⟩
theorem normal1_yes (e : PE) (a : Option Addr) (c B E p : Nat) (l : List PAlt) (ea : Int → Addr) (w : World) (hs : e.kids.sz < 250) (hK : KC B E w e.kids a) (hE : E ≤ w.heap.size) (hEA : Errs ea w) (hp : Blk w p (exA e a c)) (hyes : pNorm e = some l) :
    Calls Tryz.prog 30 #[.pointer (some ⟨p,0,none⟩)] w (fun e w'=>∃a n c,e=.returned (.slice a n c)∧AltsV 49 w.heap.size w' (.slice a n c) l∧Below w.heap.size w w'):=by
 obtain⟨i0,ei,ez,es,eb⟩:=info_parts infoNames;have HC:=qq (normal_go 250 e a c B E ea w hs (by omega) hK hE hEA);have hl64:=(pNorm_ok hyes).2;rw[hyes] at HC;have c0:w.cell? ⟨p,0,none⟩=some (.int .i64 e.op):=hp.cell 0;have c1:w.cell? ⟨p,1,none⟩=some (.string ⟨e.nm.toArray⟩):=hp.cell 1;have c2:w.cell? ⟨p,2,none⟩=some (.bool e.opt):=hp.cell 2
 have c3:w.cell? ⟨p,3,none⟩=some (.slice a e.kids.len c):=hp.cell 3;have hlt:=hp.lt;have hne:49≠9:=by decide
 have HNE:=qq hne;obtain⟨op,nm,opt,kids⟩:=e;dsimp only at c0 c1 c2 c3 HC;clear hs hK hE hEA hp hyes hne;go_enter Tryz.func30,Tryz.ntmps30;go_wp2_with fail;refine HC.out.mono ?_;rintro e w1 ⟨hyes,_⟩;obtain⟨v1,rfl,hl1,hb1⟩:=hyes l rfl;obtain⟨a1,k1,rfl⟩:=hl1.row;obtain⟨n,hn⟩:∃n,n=l.length:=⟨_,rfl⟩
 rw[←hn] at hl1 hl64⊢;have HL1:=qq hl1;have HB1:=qq hb1;have HN:=qq hn;have hw1:=hb1.size;clear hyes hl1 hb1 hn c0 c1 c2 c3 hlt HC;go_wp2_with fail;go_loopw [2,8] (fun ov cc wr=>∃(i:Nat) (vs:Array Value),i≤n∧cc=.int .i64 (i:Int)∧Hid (wr.ownsRow w1.heap.size 49 1 ov i vs.toList)∧Hid (Alts w.heap.size wr vs (l.take i).toArray)∧Hid (Below w1.heap.size w1 wr)) (fun _ cc _=>n - (intOf cc).toNat)
 case atStart=>exact⟨0,#[],by omega,by first | rfl | go_num,qq (World.ownsRow_nil _ _ _ _),qq ⟨rfl,fun i hi=>by simp at hi⟩,qq (Below.refl _ _)⟩
 case round=>
  obtain⟨i,vs,hi,rfl,HO,HA,HB⟩:=hrel;have hi0:(0:Int)≤(i:Int):=by omega
  obtain⟨ao,co,rfl⟩:=row_slice HO.out;have hwr:=HB.out.size;by_cases hlt:i<n
  · have hi1:(i:Int)<(n:Int):=by omega
    obtain⟨x,hx⟩:∃x,l[i]? =some x:=⟨_,List.getElem?_eq_getElem (by rw[←HN.out];exact hlt)⟩
    obtain⟨g,ax,cx,cap,e1,hxv,hcell,hgl⟩:=alts_at HL1.out i x hx;rw[←HN.out] at e1;have hac:a1=some ⟨g,0,none⟩:=by injection e1
    subst hac;have hc1:=hcell wr HB.out;have hgw:g<wr.heap.size:=by omega
    have HXV:=qq (row_be hxv HB.out);have HTK:Hid (l.take (i+1)=l.take i ++ [x]):=qq (by rw[List.take_add_one,hx];rfl);obtain⟨nx,hnx⟩:∃q,q=x.length:=⟨_,rfl⟩
    rw[←hnx] at hc1 HXV;have HNX:=qq hnx;have hba:Below wr.heap.size wr (wr.alloc (.cells #[.slice ax nx cx] 49)):=(Below.refl _ _).alloc (Nat.le_refl _) _;have HROW:=qq (row_be HO.out hba);have HAL:=qq (HA.out.keep hba.block);have HX4:=qq (row_be HXV.out hba);have HB4:=qq (HB.out.trans (hba.mono hwr));clear hx hxv hcell e1 hnx hba
    go_wp2_with (at_builtin;refine wpList_append_rows rfl _ _ 29 rfl w1.heap.size 49 i0 (.slice none 0 0) 1 24 Tryz.underlying29 ei ez es eb rfl (by decide) _ _ _ rfl HROW.out wr.heap.size _ _ _ rfl (lit_row _ _ _) ?o1 ?c1 ?c2 ?c3 ?_)
    case o1=>intro u hu;obtain rfl:=List.mem_singleton.1 hu;rfl
    case c1=>unfold maxLen;omega
    case c2=>omega
    case c3=>exact HB4.out.size
    intro v5 w5 hown hgrow hat;have HB5:=qq (HB4.out.grown hgrow HB4.out.size (fun q hq=>(HROW.out.lt q hq).1));have HO5:Hid (w5.ownsRow w1.heap.size 49 1 v5 (i+1) (vs.push (.slice ax nx cx)).toList):=qq (by rw[Array.toList_push];exact hown);have HA5:Hid (Alts w.heap.size w5 (vs.push (.slice ax nx cx)) (l.take (i+1)).toArray):=qq (by
      rw[HTK.out];exact snoc2 HNE.out HROW.out HAL.out (by have:=HX4.out;rw[HNX.out] at this⊢;exact this) hgrow)
    obtain⟨a5,c5,rfl⟩:=row_slice hown;clear hown hgrow hat;go_wp2_with fail;go_roundw
    case rel=>exact⟨i+1,_,by omega,by go_num,HO5,HA5,HB5⟩
    case measure=>simp[intOf];omega
  · obtain rfl:n=i:=by omega
    have HFIN:Hid (AltsV 49 w.heap.size wr (.slice ao n co) l):=qq ⟨vs,by rw[←HN.out];exact row_base HO.out hw1,by have:=HA.out;rw[HN.out,List.take_length] at this;exact this⟩;have HBF:=qq (below_then HB1.out HB.out);go_wp2_with fail
    (try go_ret)
    exact⟨ao,n,co,rfl,HFIN.out,HBF.out⟩
def pNormal (e:PE):List PAlt×Int:=if pRight e then(match pNorm e with | some l=>(l,0) | none=>([],6)) else([],4)
def Alters (B:Nat) (r:List PAlt×Int) (ea:Int→Addr) (w:World) (e:Ending) (w':World):Prop:=
 ∃v,e=.returned (.tuple #[v,errOf ea r.2])∧AltsV 49 B w' v r.1∧Below w.heap.size w w'
theorem normal_of (e : PE) (a : Option Addr) (c B E : Nat) (ea : Int → Addr) (w : World) (h : ExIn B E e a ea w) :
    Calls Tryz.prog 11 #[.agg (exA e a c)] w (Alters w.heap.size (pNormal e) ea w):=by
 have hmf:∀(fn:Fn) (first cap:Array Value) (w:World),(Instr.makeFunc fn first cap).run Tryz.prog w=.ok (.func fn first cap) w:=fun _ _ _ _=>rfl
 have hB:Below w.heap.size w (w.alloc (.cells (exA e a c) 27)):=(Below.refl _ _).alloc (Nat.le_refl _) _;have HRT:=qq (fun W (hW:Below w.heap.size w W)=>right_of e a c B E ea W (h.below hW));have HEX:=qq (fun W (hW:Below w.heap.size w W)=>h.below hW);have HGE:Hid (∀W,Below w.heap.size w W→W.cell? ⟨0,0,none⟩=some (errV (ea 4))):=qq (fun W (hW:Below w.heap.size w W)=>(h.errs.below hW).e4)
 have HB0:=qq hB;have KB:=qq (Blk.fresh w (exA e a c) 27 _ rfl);clear h;have HRES:Hid (∀r,pNormal e=r→∀v w',AltsV 49 w.heap.size w' v r.1→Below w.heap.size w w'→Alters w.heap.size (pNormal e) ea w (.returned (.tuple #[v,errOf ea r.2])) w'):=qq (fun r hr v w' h1 h2=>by rw[hr];exact⟨v,rfl,h1,h2⟩);generalize Alters w.heap.size (pNormal e) ea w=R at HRES⊢;by_cases hr:pRight e=true
 · have hsz:=pRight_sz hr;rw[hr] at HRT
   cases hpn:pNorm e with
   | none=>
    have HT:=qq (fun W (hW:Below (w.alloc (.cells (exA e a c) 27)).heap.size (w.alloc (.cells (exA e a c) 27)) W)=>try_dies_normal ⟨w.heap.size,0,none⟩ 6 (by omega) ea W ((HEX.out W (below_then hB hW)).errs) (fun W2 hW2=>normal1_no e a c B E w.heap.size ea W2 (by omega) ((HEX.out W2 (below_then (below_then hB hW) hW2)).kids) ((HEX.out W2 (below_then (below_then hB hW) hW2)).hE) ((HEX.out W2 (below_then (below_then hB hW) hW2)).errs) ((KB.out.below hW).below hW2) hpn))
    have HF:=qq (HRES.out ([],6) (by unfold pNormal;rw[if_pos hr,hpn]) (.slice none 0 0));unfold exA at*;obtain⟨l0,q0,f0⟩:=KB.out;obtain⟨op,nm,opt,kids⟩:=e;dsimp only at*;clear hpn hr hsz HRES HGE HEX hB;go_enter Tryz.func11,Tryz.ntmps11;go_wp2_with fail;refine(HRT.out _ HB0.out).mono ?_;rintro e w1 ⟨rfl,hb1⟩;have HB1:=qq hb1;clear hb1 l0 q0 f0;go_wp2_with fail;refine(HT.out _ HB1.out).mono ?_
    rintro e w2 ⟨rfl,hb2⟩;go_wp2_with fail
    (try go_ret)
    exact HF.out _ (AltsV.nil _ _ _) (below_then (below_then HB0.out HB1.out) hb2)
   | some l=>
    have HT:=qq (fun W (hW:Below (w.alloc (.cells (exA e a c) 27)).heap.size (w.alloc (.cells (exA e a c) 27)) W)=>try_gives_normal ⟨w.heap.size,0,none⟩ (fun v W'=>AltsV 49 (W.heap.size+3) W' v l) W (fun W2 hW2 hsz2=>(normal1_yes e a c B E w.heap.size l ea W2 (by omega) ((HEX.out W2 (below_then (below_then hB hW) hW2)).kids) ((HEX.out W2 (below_then (below_then hB hW) hW2)).hE) ((HEX.out W2 (below_then (below_then hB hW) hW2)).errs) ((KB.out.below hW).below hW2) hpn).mono (fun e w' hx=>by
      obtain⟨a',n',c',h1,h2,h3⟩:=hx;exact⟨a',n',c',h1,h2.base hsz2,h3⟩)) (fun v W1 W2 h1 hz hk=>by
        obtain⟨vs,g1,g2⟩:=h1;exact⟨vs,row_heap g1 (fun k hk'=>hk k (.inr (g1.lt k hk').1)),g2.1,fun i hi=>row_heap (g2.2 i hi) (fun k hk'=>hk k (.inr ((g2.2 i hi).lt k hk').1))⟩))
    have HF:=qq (HRES.out (l,0) (by unfold pNormal;rw[if_pos hr,hpn]));unfold exA at*;obtain⟨l0,q0,f0⟩:=KB.out;obtain⟨op,nm,opt,kids⟩:=e;dsimp only at*;clear hpn hr hsz HRES HGE HEX hB;go_enter Tryz.func11,Tryz.ntmps11;go_wp2_with fail;refine(HRT.out _ HB0.out).mono ?_;rintro e w1 ⟨rfl,hb1⟩;have HB1:=qq hb1;clear hb1 l0 q0 f0;go_wp2_with fail;refine(HT.out _ HB1.out).mono ?_
    rintro e w2 ⟨a2,n2,c2,rfl,hl2,hb2⟩;have HFIN:=qq (HF.out (.slice a2 n2 c2) w2 (hl2.base (by have:=(below_then HB0.out HB1.out).size;omega)) (below_then (below_then HB0.out HB1.out) hb2));clear hl2 HF;go_wp2_with fail
    (try go_ret)
    exact HFIN.out
 · have hr':pRight e=false:=by simpa using hr
   rw[hr'] at HRT;have HF:=qq (HRES.out ([],4) (by unfold pNormal;rw[if_neg hr]) (.slice none 0 0));unfold exA at*;obtain⟨l0,q0,f0⟩:=KB.out;obtain⟨op,nm,opt,kids⟩:=e;dsimp only at*;clear hr hr' HRES HEX hB;go_enter Tryz.func11,Tryz.ntmps11;go_wp2_with fail;refine(HRT.out _ HB0.out).mono ?_;rintro e w1 ⟨rfl,hb1⟩;have HB1:=qq (below_then HB0.out hb1);clear hb1 l0 q0 f0;go_wp2_with fail
   refine reg_start (fun w'=>Below w.heap.size w w') (by kernel_rfl) (bel_drew HB1.out) ?_;rintro w3 hHeld;refine takeM (d:=some 7) 0 rfl rfl hHeld (fun w' hS'=>by have qG:=HGE.out _ hS';clear hS';go_simp;(try rfl)) ?_;simp only[puts];refine takeM (d:=some 2) 1 rfl rfl hHeld (fun w' hS'=>by clear hS';go_simp;(try rfl)) ?_;simp only[puts]
   refine takeM (d:=some 3) 2 rfl rfl hHeld (fun w' hS'=>by clear hS';go_simp;(try rfl)) ?_;simp only[puts];refine doneM (by kernel_rfl) ?_ _;go_wp2_with fail
   (try go_ret)
   exact HF.out _ (AltsV.nil _ _ _) hHeld
theorem rname_of (s:PStr) (w:World) (hl:s.length≤100000):Calls Tryz.prog 50 #[.string ⟨s.toArray⟩] w (Gives (.bool (isNm s)) w):=by
 have HL:=qq rletter_of;have HI:=qq (fun(i:Nat) (c:UInt8) (h:s[i]? =some c)=>str_index h);have hsz:=str_size s;have HE:Hid (s.isEmpty= !decide (0<s.length)):=qq (by cases s<;>simp);obtain⟨n,hn⟩:∃n,n=s.length:=⟨_,rfl⟩
 have HNN:=qq hn;rw[←hn] at hsz hl HE;clear hn;have HRES:Hid (∀b w',isNm s=b→w'=w→Gives (.bool (isNm s)) w (.returned (.bool b)) w'):=qq (fun b w' h1 h2=>by subst h2;exact⟨by rw[h1],rfl⟩);have HDEF:Hid (isNm s=(s.all isLet && decide (0<n) && decide (n≤40))):=qq (by unfold isNm;rw[HE.out,HNN.out];simp);generalize Gives (.bool (isNm s)) w=R at HRES⊢;go_enter Tryz.func50,Tryz.ntmps50;go_wp2_with fail
 go_loopw [3] (fun cc wr=>∃i:Nat,i≤n∧cc=.int .i64 (i:Int)∧wr=w∧Hid (∀(j:Nat) (c:UInt8),j<i→s[j]? =some c→isLet c=true)) (fun cc _=>n - (intOf cc).toNat)
 case atStart=>exact⟨0,by omega,by first | rfl | go_num,by first | rfl | exact True.intro,qq (fun j c h=>by omega)⟩
 case round=>
  obtain⟨i,hi,rfl,rfl,HA⟩:=hrel;have hi0:(0:Int)≤(i:Int):=by omega
  by_cases hlt:i<n
  · have hi1:(i:Int)<(n:Int):=by omega
    obtain⟨c,hc⟩:∃c,s[i]? =some c:=⟨_,List.getElem?_eq_getElem (by rw[←HNN.out];exact hlt)⟩
    have hix:=HI.out i c hc;have HC:=qq hc;clear hc hlt;go_wp2_with fail;refine(HL.out c _).mono ?_;rintro e w2 ⟨rfl,rfl⟩
    cases hq:isLet c with
    | true=>
     have HQ:=qq hq;go_wp2_with fail;go_roundw
     case rel=>exact⟨i+1,by omega,by go_num,by first | rfl | exact True.intro,qq (fun j d hj hd=>by
       rcases Nat.lt_or_ge j i with h | h
       · exact HA.out j d h hd
       · obtain rfl:j=i:=by omega
         rw[HC.out] at hd;injection hd with hd
         rw[←hd];exact HQ.out)⟩
     case measure=>simp[intOf];omega
    | false=>
     have HNO:Hid (isNm s=false):=qq (by
       rw[HDEF.out];have:s.all isLet=false:=by
         rw[List.all_eq_false];exact⟨c,List.mem_of_getElem? HC.out,by rw[hq];simp⟩
       rw[this];rfl)
     clear hq;go_wp2_with fail
     (try go_ret)
     exact HRES.out false _ HNO.out rfl
  · have HAL:Hid (s.all isLet=true):=qq (by
      rw[List.all_eq_true];intro c hc;obtain⟨j,hj,rfl⟩:=List.getElem_of_mem hc;exact HA.out j _ (by have:=HNN.out;omega) (List.getElem?_eq_getElem hj))
    have HV:Hid (isNm s=(decide (0<n) && decide (n≤40))):=qq (by rw[HDEF.out,HAL.out];rfl);clear HA;by_cases h0:0<n
    · have h0':(0:Int)<(n:Int):=by omega
      by_cases h4:n≤40
      · have h4':(n:Int)≤40:=by omega
        have HF:Hid (isNm s=true):=qq (by rw[HV.out];simp[h0,h4]);go_wp2_with fail
        (try go_ret)
        exact HRES.out true _ HF.out rfl
      · have h4':¬(n:Int)≤40:=by omega
        have HF:Hid (isNm s=false):=qq (by rw[HV.out];simp[h4]);go_wp2_with fail
        (try go_ret)
        exact HRES.out false _ HF.out rfl
    · have h0':¬(0:Int)<(n:Int):=by omega
      have HF:Hid (isNm s=false):=qq (by rw[HV.out];simp[h0]);go_wp2_with fail
      (try go_ret)
      exact HRES.out false _ HF.out rfl
theorem rSizes_at {l:PF} {i:Nat} {k:PE} (h:l.at i=some k) (d n:Nat):rSizes (l.from i) d n=if 200<n+rSize k d then 201 else rSizes (l.from (i+1)) d (n+rSize k d):=by
 rw[PF.from_at l i k h];generalize l.from (i+1)=t;rfl
theorem rSizes_le:∀(l:PF) (d n:Nat),n≤201→rSizes l d n≤201
 | .nil,d,n,h=>h
 | .cons o n b k r,d,m,h=>by
  unfold rSizes;simp only;generalize(if 12<d∨pOk o n b k=false then 201 else rSizes k (d+1) 1)=s;split
  · exact Nat.le_refl _
  · exact rSizes_le r d _ (by omega)
theorem rSize_le (e:PE) (d:Nat):rSize e d≤201:=by
 unfold rSize;split
 · exact Nat.le_refl _
 · exact rSizes_le _ _ _ (by omega)
theorem size_go (g : Nat) : ∀ (e : PE) (d : Nat) (a : Option Addr) (c B E : Nat) (w : World), e.kids.sz < g → e.nm.length ≤ 100000 → e.kids.len ≤ 100000 → e.kids.small → KC B E w e.kids a → E ≤ w.heap.size → d ≤ 1000 →
    Calls Tryz.prog 26 #[.agg (exA e a c),.int .i64 (d:Int)] w (Makes (.int .i64 (rSize e d:Nat)) w):=by
 induction g with
 | zero=>intro e d a c B E w hg;omega
 | succ g ih=>
  rintro⟨OP,nm,opt,kids⟩ d a c B E w hg hnm hkl hsm hK hE hd;unfold exA;dsimp only at hg hnm hkl hsm hK⊢;have IH:=qq ih;have HNM:=qq (fun W=>rname_of nm W hnm);have HKC:=qq (fun W (hW:Below w.heap.size w W)=>hK.below hE hW);have HSM:=qq hsm;have HG:=qq hg;have HKL:=qq hkl;have HDEF:Hid (rSize ⟨OP,nm,opt,kids⟩ d=if 12<d∨pOk OP nm opt kids=false then 201 else rSizes kids (d+1) 1):=qq rfl
  have HPO:Hid (pOk OP nm opt kids=if OP=1 then isNm nm && decide (kids.len=0) else decide (OP=2∨OP=3) && nm.isEmpty && !opt):=qq rfl;obtain⟨n,hn⟩:∃n,n=kids.len:=⟨_,rfl⟩
  have HN:=qq hn;rw[←hn] at hkl HPO⊢;have HRES:Hid (∀(r:Nat) w',rSize ⟨OP,nm,opt,kids⟩ d=r→Below w.heap.size w w'→Makes (.int .i64 (rSize ⟨OP,nm,opt,kids⟩ d:Nat)) w (.returned (.int .i64 (r:Int))) w'):=qq (fun r w' h1 h2=>⟨by rw[h1],h2⟩);generalize Makes (.int .i64 (rSize ⟨OP,nm,opt,kids⟩ d:Nat)) w=R at HRES⊢;generalize hRS:rSize ⟨OP,nm,opt,kids⟩ d=RS at*;have hE0:E≤w.heap.size:=hE
  have HB0:Hid (Below w.heap.size w (w.alloc (.cells #[OP,.string ⟨nm.toArray⟩,.bool opt,.slice a n c] 38))):=qq ((Below.refl _ _).alloc (Nat.le_refl _) _);have hstr:((⟨nm.toArray⟩:ByteArray).toList==[])=nm.isEmpty:=by rw[ByteArray.toList_eq];cases nm<;>simp
  have hstr2:=str_nil nm;clear hK hE hsm hg hnm ih hn hRS;have HBAD:Hid (pOk OP nm opt kids=false→∀w',Below w.heap.size w w'→R (.returned (.int .i64 201)) w'):=qq (fun h w' hw=>HRES.out 201 w' (by rw[HDEF.out,if_pos (.inr h)]) hw);by_cases hdd:12<d
  · have hd':(12:Int)<(d:Int):=by omega
    have HR:=qq (fun w' hw=>HRES.out 201 w' (by rw[HDEF.out,if_pos (.inl hdd)]) hw);clear hdd;go_enter Tryz.func26,Tryz.ntmps26;go_wp2_with fail
    (try go_ret)
    exact HR.out _ HB0.out
  have hd':¬(12:Int)<(d:Int):=by omega
  by_cases hlo:OP<1
  · have hbad:=qq (HBAD.out (by rw[HPO.out,if_neg (by omega),decide_eq_false (by omega)];rfl));go_enter Tryz.func26,Tryz.ntmps26;go_wp2_with fail
    (try go_ret)
    exact hbad.out _ HB0.out
  by_cases hhi:3<OP
  · have hbad:=qq (HBAD.out (by rw[HPO.out,if_neg (by omega),decide_eq_false (by omega)];rfl));go_enter Tryz.func26,Tryz.ntmps26;go_wp2_with fail
    (try go_ret)
    exact hbad.out _ HB0.out
  have HDEF2:Hid (pOk OP nm opt kids=true→RS=rSizes kids (d+1) 1):=qq (fun h=>by rw[HDEF.out,if_neg (by rintro(e | e);exact hdd e;rw[h] at e;cases e)]);have HCASE:Hid ((OP=1∧isNm nm=false)∨(OP=1∧isNm nm=true∧0<n)∨(OP=1∧isNm nm=true∧n=0)∨((OP=2∨OP=3)∧nm.isEmpty=false)∨((OP=2∨OP=3)∧nm.isEmpty=true∧opt=true)∨((OP=2∨OP=3)∧nm.isEmpty=true∧opt=false)):=qq (by
    by_cases h1:OP=1
    · cases h2:isNm nm
      · exact .inl ⟨h1,rfl⟩
      · rcases Nat.eq_zero_or_pos n with h3 | h3
        · exact .inr (.inr (.inl ⟨h1,rfl,h3⟩))
        · exact .inr (.inl ⟨h1,rfl,h3⟩)
    · have h23:OP=2∨OP=3:=by omega
      cases h2:nm.isEmpty
      · exact .inr (.inr (.inr (.inl ⟨h23,rfl⟩)))
      · cases h3:opt
        · exact .inr (.inr (.inr (.inr (.inr ⟨h23,rfl,rfl⟩))))
        · exact .inr (.inr (.inr (.inr (.inl ⟨h23,rfl,rfl⟩)))))
  clear hdd hlo hhi HDEF;have hcase:=HCASE.out;clear HCASE;rcases hcase with⟨h1,h2⟩ | ⟨h1,h2,h3⟩ | ⟨h1,h2,h3⟩ | ⟨h1,h2⟩ | ⟨h1,h2,h3⟩ | ⟨h1,h2,h3⟩
  · subst h1;have hbad:=qq (HBAD.out (by rw[HPO.out,if_pos rfl,h2];rfl));rw[h2] at HNM;clear h2;go_enter Tryz.func26,Tryz.ntmps26;go_wp2_with fail;refine(HNM.out _).mono ?_;rintro e w2 ⟨rfl,rfl⟩;go_wp2_with fail
    (try go_ret)
    exact hbad.out _ HB0.out
  · subst h1;have hbad:=qq (HBAD.out (by rw[HPO.out,if_pos rfl,h2,decide_eq_false (by omega)];rfl));have h3':(0:Int)<(n:Int):=by omega
    rw[h2] at HNM;clear h2;go_enter Tryz.func26,Tryz.ntmps26;go_wp2_with fail;refine(HNM.out _).mono ?_;rintro e w2 ⟨rfl,hw2⟩;subst hw2;go_wp2_with fail
    (try go_ret)
    exact hbad.out _ HB0.out
  · subst h1 h3;have HGOOD:=qq (HDEF2.out (by rw[HPO.out,if_pos rfl,h2];rfl));have hkn:Hid (kids=.nil):=qq (PF.len_zero HN.out.symm);have HF:=qq (fun w' hw=>HRES.out 1 w' (by rw[HGOOD.out,hkn.out];rfl) hw);rw[h2] at HNM;clear h2;go_enter Tryz.func26,Tryz.ntmps26;go_wp2_with fail;refine(HNM.out _).mono ?_;rintro e w2 ⟨rfl,hw2⟩;subst hw2;go_wp2_with fail
    go_loopw [5,54] (fun nn cc wr=>nn=.int .i64 1∧cc=.int .i64 0∧Hid (Below w.heap.size w wr)) (fun _ _ _=>0)
    case atStart=>exact⟨by first | rfl | go_num,by first | rfl | go_num,HB0⟩
    case round=>
     obtain⟨rfl,rfl,HB2⟩:=hrel;go_wp2_with fail
     (try go_ret)
     exact HF.out _ HB2.out
  · have hbad:=qq (HBAD.out (by rw[HPO.out,if_neg (by omega),h2];simp));obtain⟨nc,nt,rfl⟩:∃x y,nm=x::y:=by cases nm with
     | nil=>simp at h2
     | cons x y=>exact⟨x,y,rfl⟩
    have hs1:((⟨(nc::nt).toArray⟩:ByteArray).toList==[])=false:=hstr;have hs2:((⟨(nc::nt).toArray⟩:ByteArray).toList==(⟨#[]⟩:ByteArray).toList)=false:=hstr2;clear hstr hstr2 h2;rcases h1 with rfl | rfl
    all_goals
     go_enter Tryz.func26,Tryz.ntmps26;go_wp2_with fail
     (try go_ret)
     exact hbad.out _ HB0.out
  · subst h3;have hbad:=qq (HBAD.out (by rw[HPO.out,if_neg (by omega)];simp));obtain rfl:nm=[]:=by simpa using h2
    clear hstr hstr2 h2;rcases h1 with rfl | rfl
    all_goals
     go_enter Tryz.func26,Tryz.ntmps26;go_wp2_with fail
     (try go_ret)
     exact hbad.out _ HB0.out
  · subst h3;have HGOOD:=qq (HDEF2.out (by rw[HPO.out,if_neg (by omega),h2,decide_eq_true h1];rfl));obtain rfl:nm=[]:=by simpa using h2
    clear hstr hstr2 h2;rcases h1 with rfl | rfl
    all_goals
     go_enter Tryz.func26,Tryz.ntmps26;go_wp2_with fail;go_loopw [5,54] (fun nn cc wr=>∃(i q:Nat),i≤n∧q≤200∧nn=.int .i64 (q:Int)∧cc=.int .i64 (i:Int)∧Hid (RS=rSizes (kids.from i) (d+1) q)∧Hid (Below w.heap.size w wr)) (fun _ cc _=>n - (intOf cc).toNat)
     case atStart=>exact⟨0,1,by omega,by omega,by first | rfl | go_num,by first | rfl | go_num,qq (by rw[HGOOD.out];cases kids<;>rfl),HB0⟩
     case round=>
      obtain⟨i,q,hi,hq,rfl,rfl,HP,HB⟩:=hrel;have hi0:(0:Int)≤(i:Int):=by omega
      by_cases hlt:i<n
      · have hi1:(i:Int)<(n:Int):=by omega
        obtain⟨k,hk⟩:=PF.at_lt kids i (by rw[←HN.out];exact hlt);have hne:kids≠.nil:=by rintro rfl;cases hk
        obtain⟨b,o,rfl,hbB,hbE,hkt⟩:=HKC.out _ HB.out hne;obtain⟨c0,c1,c2,ka,kc,c3,hkk⟩:=KT.at kids i k b o hk hkt;have hwr:=HB.out.size;have hbw:b<wr.heap.size:=by omega
        have hsm:=PF.small_at kids i k HSM.out hk;have HPA:=qq (rSizes_at hk (d+1) q);have hsl:=rSize_le k (d+1);have HCK:=qq (fun W (hb:Below wr.heap.size wr W)=>IH.out k (d+1) ka kc B E W (by have:=PF.at_sz kids i k hk;have:=HG.out;omega) hsm.1 hsm.2.1 hsm.2.2 (hkk.below (by omega) hb) (by have:=hb.size;omega) (by omega));obtain⟨s,hs⟩:∃s,s=rSize k (d+1):=⟨_,rfl⟩
        rw[←hs] at HPA HCK hsl;obtain⟨kop,knm,kopt,kkids⟩:=k;simp only[encStr] at c1;dsimp only[exA] at c0 c1 c2 c3 HCK;clear hne hkt hkk hsm hk hs;go_wp2_with fail;refine(HCK.out _ ((Below.refl _ _).alloc (Nat.le_refl _) _)).mono ?_;rintro e w5 ⟨rfl,hb5⟩;have HB5:=qq (below_then (bel_alloc HB.out _) hb5);clear c0 c1 c2 c3 hb5;by_cases hbig:200<q+s
        · have hb':(200:Int)<(q:Int)+(s:Int):=by omega
          have HF:=qq (fun w' hw=>HRES.out 201 w' (by rw[HP.out,HPA.out,if_pos hbig]) hw);clear hbig;go_wp2_with fail
          (try go_ret)
          exact HF.out _ HB5.out
        · have hb':¬(200:Int)<(q:Int)+(s:Int):=by omega
          have HP2:Hid (RS=rSizes (kids.from (i+1)) (d+1) (q+s)):=qq (by rw[HP.out,HPA.out,if_neg hbig]);clear hbig;go_wp2_with fail;go_roundw
          case rel=>exact⟨i+1,q+s,by omega,by omega,by first | rfl | go_num,by go_num,HP2,HB5⟩
          case measure=>simp[intOf];omega
      · obtain rfl:n=i:=by omega
        have HF:=qq (fun w' hw=>HRES.out q w' (by rw[HP.out,HN.out,PF.from_len];rfl) hw);go_wp2_with fail
        (try go_ret)
        exact HF.out _ HB.out
end Go.Proofs.YtbepkpjcjpmpmaaGreatDoor
