/- PolL, PolM, DnC, DnD, DnF -/
import Derived.Test.YtbepkpjcjpmpmaaDoorAPolK
set_option linter.unusedSimpArgs false
set_option linter.unusedVariables false
set_option maxRecDepth 100000
set_option maxHeartbeats 16000000
namespace Go.Proofs.YtbepkpjcjpmpmaaDoor
open Go.RowKit Go.Shelf
theorem catch_idle_nn (d x e : Addr) (w : World) (hd : w.cell? d = some (.bool true)) :
    CallsD Tryd.prog 24 #[.pointer (some d),.pointer (some x),.pointer (some e)] .returning w fun en u' w'=>en=.returned (.tuple #[])∧u'=.returning∧w'=w:=by
 refine callsD_of_wpS Tryd.func24 rfl fun c₀ cs hu=> ?_
 apply wpS_seq;apply wpS_region;simp[wpOpsS,go_sem,recoverD,hu,Tryd.ntmps24,Exit.thenS];apply wpS_seq;apply wpS_region;simp[wpOpsS,go_sem,hd,Exit.thenS];refine wpS_cond (t:=false) (by simp[Act.eval,Array.replicate]) ?_;simp only[Bool.false_eq_true,if_false];refine wpS_of_wp (wp_skip ?_)
 cases c₀
 simp_all [bodyPostS,results,Tryd.results24]
theorem catch_took_nn (D X E : Nat) (v0 : Value) (n : Int) (hn : 1 ≤ n ∧ n ≤ 14) (ea : Int → Addr) (older : List PanicEntry) (w : World) (hd : Blk w D #[.bool false]) (hx : Blk w X #[v0]) (hz : Blk w E #[.nilIface]) (hne : X ≠ E) (he : Errs ea w) :
    CallsD Tryd.prog 24 #[.pointer (some ⟨D,0,none⟩),.pointer (some ⟨X,0,none⟩),.pointer (some ⟨E,0,none⟩)] (.panicking ({v:=errV (ea n),recovered:=false}::older)) w fun en u' w'=>
     en=.returned (.tuple #[])∧u'=.panicking ({v:=errV (ea n),recovered:=true}::older)∧∃w1,Below w.heap.size w w1∧w'=(w1.setCell ⟨X,0,none⟩ (.slice none 0 0)).setCell ⟨E,0,none⟩ (errV (ea n)):=by
 have HT:=qq (fun W hW=>told_of n hn ea W hW);have HE:=qq he;have hd0:w.cell? ⟨D,0,none⟩=some (.bool false):=hd.cell 0;have HX:=qq hx;have HZ:=qq hz;have hne2:E≠X:=fun e=>hne e.symm
 clear he hd hx hz hn;refine callsD_of_wpS Tryd.func24 rfl fun c₀ cs hu=> ?_
 apply wpS_seq;apply wpS_region;simp[wpOpsS,go_sem,recoverD,hu,Tryd.ntmps24,Exit.thenS];apply wpS_seq;apply wpS_region;simp[wpOpsS,go_sem,hd0,Exit.thenS];refine wpS_cond (t:=true) (by simp[Act.eval,Array.replicate]) ?_;simp only[if_true];refine wpS_of_wp ?_
 go_wp2_with (go_at_call 25;refine(HT.out _ HE.out).mono ?_;rintro e w1 ⟨rfl,hb1⟩;have HX1:=HX.out.below hb1;have HZ1:=HZ.out.below hb1;have x0:w1.cell? ⟨X,0,none⟩=some v0:=HX1.cell 0;have x1:=HX1.free 0;have z0:w1.cell? ⟨E,0,none⟩=some .nilIface:=HZ1.cell 0;have z1:=HZ1.free 0;clear HX1 HZ1);simp[bodyPostS,results,Tryd.results24];exact⟨w1,hb1,rfl⟩
theorem try_gives_normal (p : Addr) (Rl : Value → World → Prop) (w : World) (h : ∀ W, Below w.heap.size w W → w.heap.size + 3 ≤ W.heap.size → Calls Tryd.prog 13 #[.pointer (some p)] W (fun e w' => ∃ a n c, e = .returned (.slice a n c) ∧ Rl (.slice a n c) w' ∧ Below W.heap.size W w'))
    (hR:∀v (W W':World),Rl v W→W.heap.size≤W'.heap.size→(∀k,k<w.heap.size∨w.heap.size+3≤k→W'.heap[k]? =W.heap[k]?)→Rl v W'):
    Calls Tryd.prog 12 #[.func (.func 13) #[] #[.pointer (some p)]] w (fun e w'=>∃a n c,e=.returned (.tuple #[.slice a n c,.nilIface])∧Rl (.slice a n c) w'∧Below w.heap.size w w'):=by
 have hmf:∀(fn:Fn) (first cap:Array Value) (w:World),(Instr.makeFunc fn first cap).run Tryd.prog w=.ok (.func fn first cap) w:=fun _ _ _ _=>rfl
 have H:=qq h;have HRL:=qq hR;clear h hR;go_enter_defers Tryd.func12,Tryd.ntmps12;go_wp2_with fail;refine(H.out _ (by go_grown) (by simp)).mono ?_;rintro e w1 ⟨va,vn,vc,rfl,hrl,hb1⟩;have HX:=(((Blk.fresh w #[.slice none 0 0] 25 _ rfl).below (by go_grown)).below hb1:Blk w1 w.heap.size _)
 have HE:=(((Blk.fresh (w.alloc (.cells #[.slice none 0 0] 25)) #[.nilIface] 27 (w.heap.size+1) (by simp)).below (by go_grown)).below hb1:Blk w1 (w.heap.size+1) _)
 have HD:=((Blk.fresh ((w.alloc (.cells #[.slice none 0 0] 25)).alloc (.cells #[.nilIface] 27)) #[.bool false] 4 (w.heap.size+1+1) (by simp)).below hb1:Blk w1 (w.heap.size+1+1) _)
 have x0:w1.cell? ⟨w.heap.size,0,none⟩=some (.slice none 0 0):=HX.cell 0;have x1:=HX.free 0;have e0:w1.cell? ⟨w.heap.size+1,0,none⟩=some .nilIface:=HE.cell 0;have e1:=HE.free 0;have d0:w1.cell? ⟨w.heap.size+1+1,0,none⟩=some (.bool false):=HD.cell 0;have d1:=HD.free 0;clear HX HE HD;have HB:Below w.heap.size w w1:=below_then (by go_grown) hb1;have HRR:=qq hrl;clear hrl;go_wp2_with fail
 refine leaves_cons (f:=24) (args:= #[.pointer (some ⟨w.heap.size+1+1,0,none⟩),.pointer (some ⟨w.heap.size,0,none⟩),.pointer (some ⟨w.heap.size+1,0,none⟩)]) (by simp) (by simp[go_sem]) ?_;refine(catch_idle_nn _ _ _ _ (by simp[go_sem,d0,x0,e0])).mono ?_;rintro e u' w'' ⟨rfl,rfl,rfl⟩;simp[Leaves,settle,results,Tryd.results12,go_sem,d0,x0,e0,d1,x1,e1]
 refine⟨va,vn,vc,⟨rfl,rfl,rfl⟩,HRL.out _ _ _ HRR.out (by simp) (fun k hk=> ?_),(((HB.setCell (p:=⟨w.heap.size,0,none⟩) (Nat.le_refl _) _).setCell (p:=⟨w.heap.size+1+1,0,none⟩) (by dsimp only;omega) _).setCell (p:=⟨w.heap.size,0,none⟩) (Nat.le_refl _) _).setCell (p:=⟨w.heap.size+1,0,none⟩) (by dsimp only;omega) _⟩
 rw[Below.heap_setCell _ _ _ _ (by(try dsimp only);omega),Below.heap_setCell _ _ _ _ (by(try dsimp only);omega),Below.heap_setCell _ _ _ _ (by(try dsimp only);omega),Below.heap_setCell _ _ _ _ (by(try dsimp only);omega)]
theorem try_dies_normal (p : Addr) (n : Int) (hn : 1 ≤ n ∧ n ≤ 14) (ea : Int → Addr) (w : World) (he : Errs ea w) (h : ∀ W, Below w.heap.size w W → Calls Tryd.prog 13 #[.pointer (some p)] W (Fails (errV (ea n)) W)) :
    Calls Tryd.prog 12 #[.func (.func 13) #[] #[.pointer (some p)]] w (Makes (.tuple #[.slice none 0 0,errV (ea n)]) w):=by
 have hmf:∀(fn:Fn) (first cap:Array Value) (w:World),(Instr.makeFunc fn first cap).run Tryd.prog w=.ok (.func fn first cap) w:=fun _ _ _ _=>rfl
 have H:=qq h;have HR:=qq he;clear h he;go_enter_defers Tryd.func12,Tryd.ntmps12;go_wp2_with fail;refine(H.out _ (by go_grown)).mono ?_;rintro e w1 ⟨rfl,hb1⟩;have HB:Below w.heap.size w w1:=below_then (by go_grown) hb1;have HX:=(((Blk.fresh w #[.slice none 0 0] 25 _ rfl).below (by go_grown)).below hb1:Blk w1 w.heap.size _)
 have HE:=(((Blk.fresh (w.alloc (.cells #[.slice none 0 0] 25)) #[.nilIface] 27 (w.heap.size+1) (by simp)).below (by go_grown)).below hb1:Blk w1 (w.heap.size+1) _)
 have HD:=((Blk.fresh ((w.alloc (.cells #[.slice none 0 0] 25)).alloc (.cells #[.nilIface] 27)) #[.bool false] 4 (w.heap.size+1+1) (by simp)).below hb1:Blk w1 (w.heap.size+1+1) _)
 have HER:=HR.out.below HB;refine leaves_cons (f:=24) (args:= #[.pointer (some ⟨w.heap.size+1+1,0,none⟩),.pointer (some ⟨w.heap.size,0,none⟩),.pointer (some ⟨w.heap.size+1,0,none⟩)]) (by simp) (by simp[go_sem]) ?_;refine(catch_took_nn _ _ _ _ n hn ea _ _ HD HX HE (by omega) HER).mono ?_;rintro e u' w'' ⟨rfl,rfl,w2,hb2,rfl⟩;have x0:w1.cell? ⟨w.heap.size,0,none⟩=some (.slice none 0 0):=HX.cell 0
 have hx2:=HX.below hb2;have he2:=HE.below hb2;have x2:w2.cell? ⟨w.heap.size,0,none⟩=some (.slice none 0 0):=hx2.cell 0;have e2:w2.cell? ⟨w.heap.size+1,0,none⟩=some .nilIface:=he2.cell 0;have x3:=hx2.free 0;have e3:=he2.free 0;simp[Leaves,settle,results,Tryd.results12,go_sem,x2,e2,x3,e3]
 exact⟨rfl,((HB.trans (hb2.mono HB.size)).setCell (p:=⟨w.heap.size,0,none⟩) (Nat.le_refl _) _).setCell (p:=⟨w.heap.size+1,0,none⟩) (by dsimp only;omega) _⟩
theorem infoNames:(Tryd.prog.info? 34).map (fun i=>(i.zero,i.size,i.bytes))=some (some (.slice none 0 0),1,24):=by kernel_rfl
theorem snoc2 {T:TypeId} (hT:T≠9) {w w1:World} {B B2 n:Nat} {v x:Value} {o:List PAlt} {vs:Array Value} {s:PAlt} (hrow:w.ownsRow B T 1 v n vs.toList) (hA:Alts B2 w vs o.toArray) (hx:AltV B2 w x s) (hg:w.grownBy w1 v.ownBlock):Alts B2 w1 (vs.push x) (o ++ [s]).toArray:=by
 have hsz:vs.size=o.length:=by have:=hA.1;simpa using this
 refine⟨by simp[hsz],fun i hi=> ?_⟩;have hi':i<o.length+1:=by simpa using hi
 by_cases h:i<o.length
 · have e1:(vs.push x)[i]! =vs[i]! :=by
    rw[getElem!_pos _ i (by simp;omega),getElem!_pos vs i (by omega)];simp[Array.getElem_push,hsz,h]
   have e2:(o ++ [s]).toArray[i]! =o.toArray[i]! :=by
    rw[getElem!_pos _ i (by simp;omega),getElem!_pos o.toArray i (by simpa using h)];simp[List.getElem_append,h]
   rw[e1,e2];exact alt_gro hT (hA.2 i (by simpa using h)) hg hrow
 · obtain rfl:i=o.length:=by omega
   have e1:(vs.push x)[o.length]! =x:=by
    rw[getElem!_pos _ _ (by simp[hsz])];simp[Array.getElem_push,hsz]
   have e2:(o ++ [s]).toArray[o.length]! =s:=by
    rw[getElem!_pos _ _ (by simp)];simp
   rw[e1,e2];exact alt_gro hT hx hg hrow
theorem normal1_no (e : PE) (a : Option Addr) (c B E p : Nat) (ea : Int → Addr) (w : World) (hs : e.kids.sz < 250) (hK : KC B E w e.kids a) (hE : E ≤ w.heap.size) (hEA : Errs ea w) (hp : Blk w p (exA e a c)) (hno : pNorm e = none) :
    Calls Tryd.prog 13 #[.pointer (some ⟨p,0,none⟩)] w (Fails (errV (ea 6)) w):=by
 have HC:=qq (normal_go 250 e a c B E ea w hs (by omega) hK hE hEA);rw[hno] at HC;have c0:w.cell? ⟨p,0,none⟩=some (.int .i64 e.op):=hp.cell 0;have c1:w.cell? ⟨p,1,none⟩=some (.string ⟨e.nm.toArray⟩):=hp.cell 1;have c2:w.cell? ⟨p,2,none⟩=some (.bool e.opt):=hp.cell 2;have c3:w.cell? ⟨p,3,none⟩=some (.slice a e.kids.len c):=hp.cell 3;have hlt:=hp.lt;obtain⟨op,nm,opt,kids⟩:=e
 dsimp only at c0 c1 c2 c3 HC;clear hs hK hE hEA hp hno;go_enter Tryd.func13,Tryd.ntmps13;go_wp2_with fail;refine HC.out.mono ?_;rintro e w1 ⟨_,hno⟩;obtain⟨rfl,hb⟩:=hno rfl;exact⟨rfl,rfl,hb⟩
theorem normal1_yes (e : PE) (a : Option Addr) (c B E p : Nat) (l : List PAlt) (ea : Int → Addr) (w : World) (hs : e.kids.sz < 250) (hK : KC B E w e.kids a) (hE : E ≤ w.heap.size) (hEA : Errs ea w) (hp : Blk w p (exA e a c)) (hyes : pNorm e = some l) :
    Calls Tryd.prog 13 #[.pointer (some ⟨p,0,none⟩)] w (fun e w'=>∃a n c,e=.returned (.slice a n c)∧AltsV 34 w.heap.size w' (.slice a n c) l∧Below w.heap.size w w'):=by
 obtain⟨i0,ei,ez,es,eb⟩:=info_parts infoNames;have HC:=qq (normal_go 250 e a c B E ea w hs (by omega) hK hE hEA);have hl64:=(pNorm_ok hyes).2;rw[hyes] at HC;have c0:w.cell? ⟨p,0,none⟩=some (.int .i64 e.op):=hp.cell 0;have c1:w.cell? ⟨p,1,none⟩=some (.string ⟨e.nm.toArray⟩):=hp.cell 1;have c2:w.cell? ⟨p,2,none⟩=some (.bool e.opt):=hp.cell 2
 have c3:w.cell? ⟨p,3,none⟩=some (.slice a e.kids.len c):=hp.cell 3;have hlt:=hp.lt;have hne:34≠9:=by decide
 have HNE:=qq hne;obtain⟨op,nm,opt,kids⟩:=e;dsimp only at c0 c1 c2 c3 HC;clear hs hK hE hEA hp hyes hne;go_enter Tryd.func13,Tryd.ntmps13;go_wp2_with fail;refine HC.out.mono ?_;rintro e w1 ⟨hyes,_⟩;obtain⟨v1,rfl,hl1,hb1⟩:=hyes l rfl;obtain⟨a1,k1,rfl⟩:=hl1.row;obtain⟨n,hn⟩:∃n,n=l.length:=⟨_,rfl⟩
 rw[←hn] at hl1 hl64⊢;have HL1:=qq hl1;have HB1:=qq hb1;have HN:=qq hn;have hw1:=hb1.size;clear hyes hl1 hb1 hn c0 c1 c2 c3 hlt HC;go_wp2_with fail;go_loopw [2,8] (fun ov cc wr=>∃(i:Nat) (vs:Array Value),i≤n∧cc=.int .i64 (i:Int)∧Hid (wr.ownsRow w1.heap.size 34 1 ov i vs.toList)∧Hid (Alts w.heap.size wr vs (l.take i).toArray)∧Hid (Below w1.heap.size w1 wr)) (fun _ cc _=>n - (intOf cc).toNat)
 case atStart=>exact⟨0,#[],by omega,by first | rfl | go_num,qq (World.ownsRow_nil _ _ _ _),qq ⟨rfl,fun i hi=>by simp at hi⟩,qq (Below.refl _ _)⟩
 case round=>
  obtain⟨i,vs,hi,rfl,HO,HA,HB⟩:=hrel;have hi0:(0:Int)≤(i:Int):=by omega
  obtain⟨ao,co,rfl⟩:=row_slice HO.out;have hwr:=HB.out.size;by_cases hlt:i<n
  · have hi1:(i:Int)<(n:Int):=by omega
    obtain⟨x,hx⟩:∃x,l[i]? =some x:=⟨_,List.getElem?_eq_getElem (by rw[←HN.out];exact hlt)⟩
    obtain⟨g,ax,cx,cap,e1,hxv,hcell,hgl⟩:=alts_at HL1.out i x hx;rw[←HN.out] at e1;have hac:a1=some ⟨g,0,none⟩:=by injection e1
    subst hac;have hc1:=hcell wr HB.out;have hgw:g<wr.heap.size:=by omega
    have HXV:=qq (row_be hxv HB.out);have HTK:Hid (l.take (i+1)=l.take i ++ [x]):=qq (by rw[List.take_add_one,hx];rfl);obtain⟨nx,hnx⟩:∃q,q=x.length:=⟨_,rfl⟩
    rw[←hnx] at hc1 HXV;have HNX:=qq hnx;have hba:Below wr.heap.size wr (wr.alloc (.cells #[.slice ax nx cx] 34)):=(Below.refl _ _).alloc (Nat.le_refl _) _;have HROW:=qq (row_be HO.out hba);have HAL:=qq (HA.out.keep hba.block);have HX4:=qq (row_be HXV.out hba);have HB4:=qq (HB.out.trans (hba.mono hwr));clear hx hxv hcell e1 hnx hba
    go_wp2_with (at_builtin;refine wpList_append_rows rfl _ _ 25 rfl w1.heap.size 34 i0 (.slice none 0 0) 1 24 Tryd.underlying25 ei ez es eb rfl (by decide) _ _ _ rfl HROW.out wr.heap.size _ _ _ rfl (lit_row _ _ _) ?o1 ?c1 ?c2 ?c3 ?_)
    case o1=>intro u hu;obtain rfl:=List.mem_singleton.1 hu;rfl
    case c1=>unfold maxLen;omega
    case c2=>omega
    case c3=>exact HB4.out.size
    intro v5 w5 hown hgrow hat;have HB5:=qq (HB4.out.grown hgrow HB4.out.size (fun q hq=>(HROW.out.lt q hq).1));have HO5:Hid (w5.ownsRow w1.heap.size 34 1 v5 (i+1) (vs.push (.slice ax nx cx)).toList):=qq (by rw[Array.toList_push];exact hown);have HA5:Hid (Alts w.heap.size w5 (vs.push (.slice ax nx cx)) (l.take (i+1)).toArray):=qq (by
      rw[HTK.out];exact snoc2 HNE.out HROW.out HAL.out (by have:=HX4.out;rw[HNX.out] at this⊢;exact this) hgrow)
    obtain⟨a5,c5,rfl⟩:=row_slice hown;clear hown hgrow hat;go_wp2_with fail;go_roundw
    case rel=>exact⟨i+1,_,by omega,by go_num,HO5,HA5,HB5⟩
    case measure=>simp[intOf];omega
  · obtain rfl:n=i:=by omega
    have HFIN:Hid (AltsV 34 w.heap.size wr (.slice ao n co) l):=qq ⟨vs,by rw[←HN.out];exact row_base HO.out hw1,by have:=HA.out;rw[HN.out,List.take_length] at this;exact this⟩;have HBF:=qq (below_then HB1.out HB.out);go_wp2_with fail
    (try go_ret)
    exact⟨ao,n,co,rfl,HFIN.out,HBF.out⟩
def pNormal (e:PE):List PAlt×Int:=if pRight e then(match pNorm e with | some l=>(l,0) | none=>([],6)) else([],4)
def Alters (B:Nat) (r:List PAlt×Int) (ea:Int→Addr) (w:World) (e:Ending) (w':World):Prop:=
 ∃v,e=.returned (.tuple #[v,errOf ea r.2])∧AltsV 34 B w' v r.1∧Below w.heap.size w w'
theorem normal_of (e : PE) (a : Option Addr) (c B E : Nat) (ea : Int → Addr) (w : World) (h : ExIn B E e a ea w) :
    Calls Tryd.prog 6 #[.agg (exA e a c)] w (Alters w.heap.size (pNormal e) ea w):=by
 have hmf:∀(fn:Fn) (first cap:Array Value) (w:World),(Instr.makeFunc fn first cap).run Tryd.prog w=.ok (.func fn first cap) w:=fun _ _ _ _=>rfl
 have hB:Below w.heap.size w (w.alloc (.cells (exA e a c) 32)):=(Below.refl _ _).alloc (Nat.le_refl _) _;have HRT:=qq (fun W (hW:Below w.heap.size w W)=>right_of e a c B E ea W (h.below hW));have HEX:=qq (fun W (hW:Below w.heap.size w W)=>h.below hW);have HGE:Hid (∀W,Below w.heap.size w W→W.cell? ⟨0,0,none⟩=some (errV (ea 4))):=qq (fun W (hW:Below w.heap.size w W)=>(h.errs.below hW).e4)
 have HB0:=qq hB;have KB:=qq (Blk.fresh w (exA e a c) 32 _ rfl);clear h;have HRES:Hid (∀r,pNormal e=r→∀v w',AltsV 34 w.heap.size w' v r.1→Below w.heap.size w w'→Alters w.heap.size (pNormal e) ea w (.returned (.tuple #[v,errOf ea r.2])) w'):=qq (fun r hr v w' h1 h2=>by rw[hr];exact⟨v,rfl,h1,h2⟩);generalize Alters w.heap.size (pNormal e) ea w=R at HRES⊢;by_cases hr:pRight e=true
 · have hsz:=pRight_sz hr;rw[hr] at HRT
   cases hpn:pNorm e with
   | none=>
    have HT:=qq (fun W (hW:Below (w.alloc (.cells (exA e a c) 32)).heap.size (w.alloc (.cells (exA e a c) 32)) W)=>try_dies_normal ⟨w.heap.size,0,none⟩ 6 (by omega) ea W ((HEX.out W (below_then hB hW)).errs) (fun W2 hW2=>normal1_no e a c B E w.heap.size ea W2 (by omega) ((HEX.out W2 (below_then (below_then hB hW) hW2)).kids) ((HEX.out W2 (below_then (below_then hB hW) hW2)).hE) ((HEX.out W2 (below_then (below_then hB hW) hW2)).errs) ((KB.out.below hW).below hW2) hpn))
    have HF:=qq (HRES.out ([],6) (by unfold pNormal;rw[if_pos hr,hpn]) (.slice none 0 0));unfold exA at*;obtain⟨l0,q0,f0⟩:=KB.out;obtain⟨op,nm,opt,kids⟩:=e;dsimp only at*;clear hpn hr hsz HRES HGE HEX hB;go_enter Tryd.func6,Tryd.ntmps6;go_wp2_with fail;refine(HRT.out _ HB0.out).mono ?_;rintro e w1 ⟨rfl,hb1⟩;have HB1:=qq hb1;clear hb1 l0 q0 f0;go_wp2_with fail;refine(HT.out _ HB1.out).mono ?_
    rintro e w2 ⟨rfl,hb2⟩;go_wp2_with fail
    (try go_ret)
    exact HF.out _ (AltsV.nil _ _ _) (below_then (below_then HB0.out HB1.out) hb2)
   | some l=>
    have HT:=qq (fun W (hW:Below (w.alloc (.cells (exA e a c) 32)).heap.size (w.alloc (.cells (exA e a c) 32)) W)=>try_gives_normal ⟨w.heap.size,0,none⟩ (fun v W'=>AltsV 34 (W.heap.size+3) W' v l) W (fun W2 hW2 hsz2=>(normal1_yes e a c B E w.heap.size l ea W2 (by omega) ((HEX.out W2 (below_then (below_then hB hW) hW2)).kids) ((HEX.out W2 (below_then (below_then hB hW) hW2)).hE) ((HEX.out W2 (below_then (below_then hB hW) hW2)).errs) ((KB.out.below hW).below hW2) hpn).mono (fun e w' hx=>by
      obtain⟨a',n',c',h1,h2,h3⟩:=hx;exact⟨a',n',c',h1,h2.base hsz2,h3⟩)) (fun v W1 W2 h1 hz hk=>by
        obtain⟨vs,g1,g2⟩:=h1;exact⟨vs,row_heap g1 (fun k hk'=>hk k (.inr (g1.lt k hk').1)),g2.1,fun i hi=>row_heap (g2.2 i hi) (fun k hk'=>hk k (.inr ((g2.2 i hi).lt k hk').1))⟩))
    have HF:=qq (HRES.out (l,0) (by unfold pNormal;rw[if_pos hr,hpn]));unfold exA at*;obtain⟨l0,q0,f0⟩:=KB.out;obtain⟨op,nm,opt,kids⟩:=e;dsimp only at*;clear hpn hr hsz HRES HGE HEX hB;go_enter Tryd.func6,Tryd.ntmps6;go_wp2_with fail;refine(HRT.out _ HB0.out).mono ?_;rintro e w1 ⟨rfl,hb1⟩;have HB1:=qq hb1;clear hb1 l0 q0 f0;go_wp2_with fail;refine(HT.out _ HB1.out).mono ?_
    rintro e w2 ⟨a2,n2,c2,rfl,hl2,hb2⟩;have HFIN:=qq (HF.out (.slice a2 n2 c2) w2 (hl2.base (by have:=(below_then HB0.out HB1.out).size;omega)) (below_then (below_then HB0.out HB1.out) hb2));clear hl2 HF;go_wp2_with fail
    (try go_ret)
    exact HFIN.out
 · have hr':pRight e=false:=by simpa using hr
   rw[hr'] at HRT;have HF:=qq (HRES.out ([],4) (by unfold pNormal;rw[if_neg hr]) (.slice none 0 0));unfold exA at*;obtain⟨l0,q0,f0⟩:=KB.out;obtain⟨op,nm,opt,kids⟩:=e;dsimp only at*;clear hr hr' HRES HEX hB;go_enter Tryd.func6,Tryd.ntmps6;go_wp2_with fail;refine(HRT.out _ HB0.out).mono ?_;rintro e w1 ⟨rfl,hb1⟩;have HB1:=qq (below_then HB0.out hb1);clear hb1 l0 q0 f0;go_wp2_with fail
   refine reg_start (fun w'=>Below w.heap.size w w') (by kernel_rfl) (bel_drew HB1.out) ?_;rintro w3 hHeld;refine takeM (d:=some 7) 0 rfl rfl hHeld (fun w' hS'=>by have qG:=HGE.out _ hS';clear hS';go_simp;(try rfl)) ?_;simp only[puts];refine takeM (d:=some 2) 1 rfl rfl hHeld (fun w' hS'=>by clear hS';go_simp;(try rfl)) ?_;simp only[puts]
   refine takeM (d:=some 3) 2 rfl rfl hHeld (fun w' hS'=>by clear hS';go_simp;(try rfl)) ?_;simp only[puts];refine doneM (by kernel_rfl) ?_ _;go_wp2_with fail
   (try go_ret)
   exact HF.out _ (AltsV.nil _ _ _) hHeld
theorem take_snoc {α:Type} {l:List α} {i:Nat} {x:α} (h:l[i]? =some x):l.take (i+1)=l.take i ++ [x]:=by rw[List.take_add_one,h];rfl
theorem drop_at {α:Type} {l:List α} {i:Nat} {x:α} (h:l[i]? =some x):l.drop i=x::l.drop (i+1):=by
 obtain⟨h1,e1⟩:=List.getElem?_eq_some_iff.1 h;rw[List.drop_eq_getElem_cons h1,e1]
theorem ris_drop {l:List PAlt} (h:Ris ltA l) {i:Nat} {x:PAlt} (hx:l[i]? =some x):∀y∈l.drop (i+1),ltA x y=true:=by
 have h1:Ris ltA (l.drop i):=List.Pairwise.sublist (List.drop_sublist i l) h;rw[drop_at hx] at h1;exact(List.pairwise_cons.1 h1).1
structure PutAt (l:List PAlt) (a:PAlt) (i:Nat) (done:Bool) (out:List PAlt):Prop where
 no:done=false→out=l.take i∧ins ltA a l=out ++ins ltA a (l.drop i)
 yes:done=true→ins ltA a l=out ++l.drop i∧∀y∈l.drop i,ltA a y=true
 len:out.length≤i+1
theorem PutAt.start (l:List PAlt) (a:PAlt):PutAt l a 0 false []:=⟨fun _=>⟨rfl,rfl⟩,fun h=>(by cases h),by simp⟩
theorem PutAt.same {l:List PAlt} {a x:PAlt} {i:Nat} {out:List PAlt} {done:Bool} (h:PutAt l a i done out) (hx:l[i]? =some x) (he:a=x):ins ltA a l=l:=by
 subst he
 cases done with
 | true=>
  have:=(h.yes rfl).2 a (by rw[drop_at hx];simp);rw[toA.irr] at this
  cases this
 | false=>
  obtain⟨h1,h2⟩:=h.no rfl;have e:ins ltA a (a::l.drop (i+1))=a::l.drop (i+1):=by unfold ins;rw[if_neg (by rw[toA.irr];simp),if_neg (by rw[toA.irr];simp)]
  rw[drop_at hx,e,←drop_at hx,h1,List.take_append_drop] at h2;exact h2
theorem PutAt.before {l:List PAlt} {a x:PAlt} {i:Nat} {out:List PAlt} (h:PutAt l a i false out) (hr:Ris ltA l) (hx:l[i]? =some x) (hl:ltA a x=true):PutAt l a (i+1) true ((out ++ [a]) ++ [x]):=by
 obtain⟨h1,h2⟩:=h.no rfl;refine⟨fun e=>(by cases e),fun _=>⟨?_,fun y hy=>toA.tr _ _ _ hl (ris_drop hr hx y hy)⟩,?_⟩
 · rw[h2,drop_at hx]
   conv=>lhs;rw[ins,if_pos hl]
   simp
 · have hi:=(List.getElem?_eq_some_iff.1 hx).1;rw[h1];simp;omega
theorem PutAt.after {l:List PAlt} {a x:PAlt} {i:Nat} {out:List PAlt} (h:PutAt l a i false out) (hx:l[i]? =some x) (h1:ltA a x=false) (h2:ltA x a=true):PutAt l a (i+1) false (out ++ [x]):=by
 obtain⟨h3,h4⟩:=h.no rfl;refine⟨fun _=>⟨by rw[h3,take_snoc hx],?_⟩,fun e=>(by cases e),by have:=h.len;simp;omega⟩;rw[h4,drop_at hx]
 conv=>lhs;rw[ins,if_neg (by rw[h1];simp),if_pos h2]
 simp
def NmRow (B:Nat) (w:World) (g m c:Nat) (o:PAlt):Prop:=m=o.length∧w.ownsRow B 9 1 (.slice (some ⟨g,0,none⟩) m c) m (o.map encStr)
theorem NmRow.cell {B:Nat} {w:World} {g m c:Nat} {o:PAlt} (h:NmRow B w g m c o) {j:Nat} {x:PStr} (hx:o[j]? =some x):w.cell? ⟨g,j,none⟩=some (encStr x):=by
 have:=h.2.cells (g:=g) rfl j (encStr x) (by rw[List.getElem?_map,hx];rfl);rwa[Addr.add_lit,Nat.zero_add] at this
theorem NmRow.cap {B:Nat} {w:World} {g m c:Nat} {o:PAlt} (h:NmRow B w g m c o):m≤c∧g<w.heap.size∧B≤g:=by
 rcases h.2.2 with⟨hv,_⟩ | ⟨g2,cap,cur,hv,hg1,hg2,hle,_⟩
 · cases hv
 · injection hv with e1 _ e3
   injection e1 with e1
   injection e1 with e1
   subst e1 e3;exact⟨hle,(Array.getElem?_eq_some_iff.1 hg2).1,hg1⟩
theorem NmRow.be {B:Nat} {w w':World} {g m c:Nat} {o:PAlt} (h:NmRow B w g m c o) (hb:Below w.heap.size w w'):NmRow B w' g m c o:=⟨h.1,row_be h.2 hb⟩
theorem sameTexts_yes (Ba Bb:Nat) (va vb:Value) (s:PAlt) (w:World) (ha:AltV Ba w va s) (hb:AltV Bb w vb s) (hl:s.length≤100000):Calls Tryd.prog 16 #[va,vb] w (Makes (.bool true) w):=by
 have HA:=qq (fun W (hW:Below w.heap.size w W)=>alt_cell (row_be ha hW));have HB:=qq (fun W (hW:Below w.heap.size w W)=>alt_cell (row_be hb hW));obtain⟨aa,ca,rfl,_⟩:=alt_cell ha;obtain⟨ab,cb,rfl,_⟩:=alt_cell hb;obtain⟨n,hn⟩:∃n,n=s.length:=⟨_,rfl⟩
 have HN:=qq hn;rw[←hn] at hl⊢;clear ha hb hn;go_enter Tryd.func16,Tryd.ntmps16;go_wp2_with fail;go_loopw [13] (fun cc wr=>∃i:Nat,i≤n∧cc=.int .i64 (i:Int)∧Hid (Below w.heap.size w wr)) (fun cc _=>n - (intOf cc).toNat)
 case atStart=>exact⟨0,by omega,by first | rfl | go_num,qq (Below.refl _ _)⟩
 case round=>
  obtain⟨i,hi,rfl,HBE⟩:=hrel;have hi0:(0:Int)≤(i:Int):=by omega
  by_cases hlt:i<n
  · have h1:(i:Int)<(n:Int):=by omega
    obtain⟨x,hx⟩:∃x,s[i]? =some x:=⟨_,List.getElem?_eq_getElem (by rw[←HN.out];exact hlt)⟩
    obtain⟨_,_,ea,hca⟩:=HA.out _ HBE.out;injection ea with ea1 ean ea2
    clear ean;subst ea1 ea2;obtain⟨ga,rfl,cA,lA,kA⟩:=hca i x hx;obtain⟨_,_,eb,hcb⟩:=HB.out _ HBE.out;injection eb with eb1 ebn eb2
    clear ebn;subst eb1 eb2;obtain⟨gb,rfl,cB,lB,kB⟩:=hcb i x hx;rw[←HN.out] at kA kB;clear hca hcb hx hlt;go_wp2_with fail;refine reg_start (fun w'=>w'=wr.drew) (by kernel_rfl) rfl ?_;rintro w1 hHeld;refine takeM (d:=some 16) 0 rfl rfl hHeld (fun w' hS'=>by subst hS';go_simp;(try rfl)) ?_;simp only[puts];refine takeM (d:=some 17) 1 rfl rfl hHeld (fun w' hS'=>by subst hS';go_simp;(try rfl)) ?_
    simp only[puts];refine takeM (d:=some 18) 2 rfl rfl hHeld (fun w' hS'=>by subst hS';go_simp;(try rfl)) ?_;simp only[puts];refine takeM (d:=some 19) 3 rfl rfl hHeld (fun w' hS'=>by subst hS';have qc:=cA;go_simp;(try rfl)) ?_;simp only[puts];refine takeM (d:=some 20) 4 rfl rfl hHeld (fun w' hS'=>by subst hS';go_simp;(try rfl)) ?_;simp only[puts]
    refine takeM (d:=some 21) 5 rfl rfl hHeld (fun w' hS'=>by subst hS';go_simp;(try rfl)) ?_;simp only[puts];refine takeM (d:=some 22) 6 rfl rfl hHeld (fun w' hS'=>by subst hS';go_simp;(try rfl)) ?_;simp only[puts];refine takeM (d:=some 23) 7 rfl rfl hHeld (fun w' hS'=>by subst hS';have qc:=cB;go_simp;(try rfl)) ?_;simp only[puts]
    refine takeM (d:=some 24) 8 rfl rfl hHeld (fun w' hS'=>by subst hS';go_simp;(try rfl)) ?_;simp only[puts];refine doneM (by kernel_rfl) ?_ _;subst hHeld;have HBF:=qq (bel_drew HBE.out);clear cA cB;go_wp2_with fail;go_roundw
    case rel=>exact⟨i+1,by omega,by go_num,HBF⟩
    case measure=>simp[intOf];omega
  · go_wp2_with fail;go_ret;exact⟨rfl,HBE.out⟩
theorem same29_yes (Ba Bb:Nat) (va vb:Value) (l:List PAlt) (w:World) (ha:AltsV 34 Ba w va l) (hb:AltsV 34 Bb w vb l) (hl:l.length≤100000) (hm:∀a∈l,a.length≤100000):Calls Tryd.prog 9 #[va,vb] w (Makes (.bool true) w):=by
 have HA:=qq (fun W (hW:Below w.heap.size w W)=>ha.below hW);have HB:=qq (fun W (hW:Below w.heap.size w W)=>hb.below hW);have HM:=qq hm;obtain⟨aa,ca,rfl⟩:=ha.row;obtain⟨ab,cb,rfl⟩:=hb.row;obtain⟨n,hn⟩:∃n,n=l.length:=⟨_,rfl⟩
 have HN:=qq hn;rw[←hn] at hl⊢;clear ha hb hn hm;go_enter Tryd.func9,Tryd.ntmps9;go_wp2_with fail;go_loopw [13] (fun cc wr=>∃i:Nat,i≤n∧cc=.int .i64 (i:Int)∧Hid (Below w.heap.size w wr)) (fun cc _=>n - (intOf cc).toNat)
 case atStart=>exact⟨0,by omega,by first | rfl | go_num,qq (Below.refl _ _)⟩
 case round=>
  obtain⟨i,hi,rfl,HBE⟩:=hrel;have hi0:(0:Int)≤(i:Int):=by omega
  by_cases hlt:i<n
  · have h1:(i:Int)<(n:Int):=by omega
    obtain⟨x,hx⟩:∃x,l[i]? =some x:=⟨_,List.getElem?_eq_getElem (by rw[←HN.out];exact hlt)⟩
    obtain⟨ga,a1,c1,k1,e1,hxa,hca,la⟩:=alts_at (HA.out _ HBE.out) i x hx;obtain⟨gb,a2,c2,k2,e2,hxb,hcb,lb⟩:=alts_at (HB.out _ HBE.out) i x hx;injection e1 with e1a e1n e1b
    clear e1n;subst e1a e1b;injection e2 with e2a e2n e2b
    clear e2n;subst e2a e2b;have cA:=hca wr (Below.refl _ _);have cB:=hcb wr (Below.refl _ _);have HST:=qq (fun W (hW:Below wr.heap.size wr W)=>sameTexts_yes Ba Bb _ _ x W (row_be hxa hW) (row_be hxb hW) (HM.out x (List.mem_of_getElem? hx)));obtain⟨nx,hnx⟩:∃q,q=x.length:=⟨_,rfl⟩
    rw[←hnx] at HST cA cB;clear hca hcb hx hlt hxa hxb hnx;go_wp2_with fail;have CA:=qq cA;have CB:=qq cB;clear cA cB;refine reg_start (fun w'=>Below wr.heap.size wr w') (by kernel_rfl) (Below.refl _ _).drew ?_;rintro w1 hHeld;refine takeM (d:=some 16) 0 rfl rfl hHeld (fun w' hS'=>by clear hS';go_simp;(try rfl)) ?_;simp only[puts]
    refine takeM (d:=some 17) 1 rfl rfl hHeld (fun w' hS'=>by clear hS';go_simp;(try rfl)) ?_;simp only[puts];refine takeM (d:=some 18) 2 rfl rfl hHeld (fun w' hS'=>by clear hS';go_simp;(try rfl)) ?_;simp only[puts];refine takeM (d:=some 19) 3 rfl rfl hHeld (fun w' hS'=>by have qc:=(hS'.cell (p:=⟨ga,i,none⟩) la).trans CA.out;clear hS';go_simp;(try rfl)) ?_;simp only[puts]
    refine takeM (d:=some 20) 4 rfl rfl hHeld (fun w' hS'=>by clear hS';go_simp;(try rfl)) ?_;simp only[puts];refine takeM (d:=some 21) 5 rfl rfl hHeld (fun w' hS'=>by clear hS';go_simp;(try rfl)) ?_;simp only[puts];refine takeM (d:=some 22) 6 rfl rfl hHeld (fun w' hS'=>by clear hS';go_simp;(try rfl)) ?_;simp only[puts]
    refine takeM (d:=some 23) 7 rfl rfl hHeld (fun w' hS'=>by have qc:=(hS'.cell (p:=⟨gb,i,none⟩) lb).trans CB.out;clear hS';go_simp;(try rfl)) ?_;simp only[puts];refine one_M 8 (by kernel_rfl) ?_;refine wpOp_call (d:=some 24) 8 16 _ _ [.slice a1 nx c1,.slice a2 nx c2] rfl rfl rfl (enters_of Tryd.func16 (by kernel_rfl) rfl) (by rfl) (by rfl) ?_;refine(HST.out _ hHeld).mono ?_;rintro e w2 ⟨rfl,hb2⟩
    refine ret_S (below_then hHeld hb2) (fun hHeld=> ?_);simp only[puts];refine takeM (d:=some 25) 9 rfl rfl hHeld (fun w' hS'=>by clear hS';go_simp;(try rfl)) ?_;simp only[puts];refine doneM (by kernel_rfl) ?_ _;have HBF:=qq (below_then HBE.out hHeld);go_wp2_with fail;go_roundw
    case rel=>exact⟨i+1,by omega,by go_num,HBF⟩
    case measure=>simp[intOf];omega
  · go_wp2_with fail;go_ret;exact⟨rfl,HBE.out⟩
end Go.Proofs.YtbepkpjcjpmpmaaDoor
