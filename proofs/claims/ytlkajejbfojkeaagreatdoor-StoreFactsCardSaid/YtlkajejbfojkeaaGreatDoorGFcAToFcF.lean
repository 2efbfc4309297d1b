/- FcA, FcB, StepI, FcC, FcD, FcF -/
import Derived.Test.YtlkajejbfojkeaaGreatDoorGStoGToFbZ
import Derived.OrdersIn
import Derived.TacticsInMore
import Derived.RangeFuncWrites
import Derived.Test.YtlkajejbfojkeaaGreatDoorKStoNToStoB
import Derived.Laws.AppendOwnNone
import Derived.Test.YtlkajejbfojkeaaGreatDoorKFacFToFacC
set_option linter.unusedSimpArgs false
set_option linter.unusedVariables false
set_option maxRecDepth 100000
set_option maxHeartbeats 16000000
namespace Go.Proofs.YtlkajejbfojkeaaGreatDoor
open Go.RowKit Go.Shelf
attribute [local go_sem] store_float
theorem catch_idle_rs (d x e : Addr) (w : World) (hd : w.cell? d = some (.bool true)) :
    CallsD Tryz.prog 209 #[.pointer (some d),.pointer (some x),.pointer (some e)] .returning w fun en u' w'=>en=.returned (.tuple #[])∧u'=.returning∧w'=w:=by
 refine callsD_of_wpS Tryz.func209 rfl fun c₀ cs hu=> ?_
 apply wpS_seq;apply wpS_region;simp[wpOpsS,go_sem,recoverD,hu,Tryz.ntmps209,Exit.thenS];apply wpS_seq;apply wpS_region;simp[wpOpsS,go_sem,hd,Exit.thenS];refine wpS_cond (t:=false) (by simp[Act.eval,Array.replicate]) ?_;simp only[Bool.false_eq_true,if_false];refine wpS_of_wp (wp_skip ?_)
 cases c₀
 simp_all [bodyPostS,results,Tryz.results209]
theorem try_gives_frows (p : Addr) (Rl : Value → World → Prop) (w : World) (h : ∀ W, Below w.heap.size w W → w.heap.size + 3 ≤ W.heap.size → Calls Tryz.prog 108 #[.pointer (some p)] W (fun e w' => ∃ a n c, e = .returned (.slice a n c) ∧ Rl (.slice a n c) w' ∧ Below W.heap.size W w'))
    (hR:∀v (W W':World),Rl v W→W.heap.size≤W'.heap.size→(∀k,k<w.heap.size∨w.heap.size+3≤k→W'.heap[k]? =W.heap[k]?)→Rl v W'):
    Calls Tryz.prog 107 #[.func (.func 108) #[] #[.pointer (some p)]] w (fun e w'=>∃a n c,e=.returned (.tuple #[.slice a n c,.nilIface])∧Rl (.slice a n c) w'∧Below w.heap.size w w'):=by
 have hmf:∀(fn:Fn) (first cap:Array Value) (w:World),(Instr.makeFunc fn first cap).run Tryz.prog w=.ok (.func fn first cap) w:=fun _ _ _ _=>rfl
 have H:=qq h;have HRL:=qq hR;clear h hR;go_enter_defers Tryz.func107,Tryz.ntmps107;go_wp2_with fail;refine(H.out _ (by go_grown) (by simp)).mono ?_;rintro e w1 ⟨va,vn,vc,rfl,hrl,hb1⟩;have HX:=(((Blk.fresh w #[.slice none 0 0] 64 _ rfl).below (by go_grown)).below hb1:Blk w1 w.heap.size _)
 have HE:=(((Blk.fresh (w.alloc (.cells #[.slice none 0 0] 64)) #[.nilIface] 26 (w.heap.size+1) (by simp)).below (by go_grown)).below hb1:Blk w1 (w.heap.size+1) _)
 have HD:=((Blk.fresh ((w.alloc (.cells #[.slice none 0 0] 64)).alloc (.cells #[.nilIface] 26)) #[.bool false] 4 (w.heap.size+1+1) (by simp)).below hb1:Blk w1 (w.heap.size+1+1) _)
 have x0:w1.cell? ⟨w.heap.size,0,none⟩=some (.slice none 0 0):=HX.cell 0;have x1:=HX.free 0;have e0:w1.cell? ⟨w.heap.size+1,0,none⟩=some .nilIface:=HE.cell 0;have e1:=HE.free 0;have d0:w1.cell? ⟨w.heap.size+1+1,0,none⟩=some (.bool false):=HD.cell 0;have d1:=HD.free 0;clear HX HE HD;have HB:Below w.heap.size w w1:=below_then (by go_grown) hb1;have HRR:=qq hrl;clear hrl;go_wp2_with fail
 refine leaves_cons (f:=209) (args:= #[.pointer (some ⟨w.heap.size+1+1,0,none⟩),.pointer (some ⟨w.heap.size,0,none⟩),.pointer (some ⟨w.heap.size+1,0,none⟩)]) (by simp) (by simp[go_sem]) ?_;refine(catch_idle_rs _ _ _ _ (by simp[go_sem,d0,x0,e0])).mono ?_;rintro e u' w'' ⟨rfl,rfl,rfl⟩;simp[Leaves,settle,results,Tryz.results107,go_sem,d0,x0,e0,d1,x1,e1]
 refine⟨va,vn,vc,⟨rfl,rfl,rfl⟩,HRL.out _ _ _ HRR.out (by simp) (fun k hk=> ?_),(((HB.setCell (p:=⟨w.heap.size,0,none⟩) (Nat.le_refl _) _).setCell (p:=⟨w.heap.size+1+1,0,none⟩) (by dsimp only;omega) _).setCell (p:=⟨w.heap.size,0,none⟩) (Nat.le_refl _) _).setCell (p:=⟨w.heap.size+1,0,none⟩) (by dsimp only;omega) _⟩
 rw[Below.heap_setCell _ _ _ _ (by(try dsimp only);omega),Below.heap_setCell _ _ _ _ (by(try dsimp only);omega),Below.heap_setCell _ _ _ _ (by(try dsimp only);omega),Below.heap_setCell _ _ _ _ (by(try dsimp only);omega)]
theorem infoRow:(Tryz.prog.info? 65).map (fun i=>(i.zero,i.size,i.bytes))=some (some (.slice none 0 0),1,24):=by kernel_rfl
structure BRows (B:Nat) (v:Value) (xs:List (List Nat)) (vs:List Value) (w:World):Prop where
 len:vs.length=xs.length
 row:w.ownsRow B 65 1 v xs.length vs
 data:∀(i:Nat) (x:List Nat) (dv:Value),xs[i]? =some x→vs[i]? =some dv→w.ownsRow B 5 1 dv x.length (bytesL x)
 apart:∀dv∈vs,∀k,dv.ownBlock=some k→v.ownBlock≠some k
theorem BRows.nil (B:Nat) (w:World):BRows B (.slice none 0 0) [] [] w:=⟨rfl,World.ownsRow_nil _ _ _ _,fun i x dv h=>by simp at h,fun x h=>by cases h⟩
theorem BRows.heap {B:Nat} {v:Value} {xs:List (List Nat)} {vs:List Value} {w w':World} (h:BRows B v xs vs w) (he:∀k,B≤k→k<w.heap.size→w'.heap[k]? =w.heap[k]?):BRows B v xs vs w':=
 ⟨h.len,row_heap h.row (fun k hk=>he k (h.row.lt k hk).1 (h.row.lt k hk).2),fun i x dv h1 h2=>row_heap (h.data i x dv h1 h2) (fun k hk=>he k ((h.data i x dv h1 h2).lt k hk).1 ((h.data i x dv h1 h2).lt k hk).2),h.apart⟩
theorem BRows.snoc {B : Nat} {v v2 : Value} {xs : List (List Nat)} {vs : List Value} {w w2 : World} {x : List Nat} {dv : Value} (h : BRows B v xs vs w) (hx : w.ownsRow B 5 1 dv x.length (bytesL x)) (hax : ∀ k, dv.ownBlock = some k → v.ownBlock ≠ some k)
    (hr:w2.ownsRow B 65 1 v2 (xs.length+1) (vs ++ [dv])) (hg:w.grownBy w2 v.ownBlock) (hat:v2.ownBlock=v.ownBlock∨v2.ownBlock=some w.heap.size):BRows B v2 (xs ++ [x]) (vs ++ [dv]) w2:=by
 have keep:∀(u:Value) (n:Nat) (l:List Value),w.ownsRow B 5 1 u n l→(∀k,u.ownBlock=some k→v.ownBlock≠some k)→w2.ownsRow B 5 1 u n l:=fun u n l h1 h2=>
  row_heap h1 (fun k hk=>hg.block k (h1.lt k hk).2 (fun e=>h2 k hk e.symm))
 have apart2:∀(u:Value) (n:Nat) (l:List Value),w.ownsRow B 5 1 u n l→(∀k,u.ownBlock=some k→v.ownBlock≠some k)→∀k,u.ownBlock=some k→v2.ownBlock≠some k:=fun u n l h1 h2 k hk e=>by
  rcases hat with h3 | h3
  · exact h2 k hk (by rw[←h3];exact e)
  · have:=(h1.lt k hk).2;rw[h3] at e;injection e with e
    omega
 have hl:=h.len;refine⟨by simp[h.len],by rw[List.length_append];exact hr,fun i y u h1 h2=> ?_,fun u hu k hk=> ?_⟩
 · by_cases hi:i<xs.length
   · rw[List.getElem?_append_left hi] at h1;rw[List.getElem?_append_left (by omega)] at h2;exact keep _ _ _ (h.data i y u h1 h2) (h.apart u (List.mem_of_getElem? h2))
   · rw[List.getElem?_append_right (by omega)] at h1;rw[List.getElem?_append_right (by omega),hl] at h2;have e0:i - xs.length=0:=by
      rcases Nat.eq_zero_or_pos (i - xs.length) with e | e
      · exact e
      · rw[List.getElem?_eq_none (by simp;omega)] at h1;cases h1
     rw[e0] at h1 h2;simp at h1 h2;subst h1 h2;exact keep _ _ _ hx hax
 · rcases List.mem_append.1 hu with hu | hu
   · obtain⟨i,hi,rfl⟩:=List.getElem_of_mem hu;exact apart2 _ _ _ (h.data i xs[i] vs[i] (List.getElem?_eq_getElem (by omega)) (List.getElem?_eq_getElem hi)) (h.apart _ hu) k hk
   · obtain rfl:=List.mem_singleton.1 hu;exact apart2 _ _ _ hx hax k hk
theorem BRows.mono {B B':Nat} {v:Value} {xs:List (List Nat)} {vs:List Value} {w:World} (h:BRows B' v xs vs w) (hb:B≤B'):BRows B v xs vs w:=⟨h.len,row_mono h.row hb,fun i x dv h1 h2=>row_mono (h.data i x dv h1 h2) hb,h.apart⟩
theorem rf_be {w w':World} {v:Value} {fs:List SFact} (h:ReadFacts w v fs) (hb:Below w.heap.size w w'):ReadFacts w' v fs:=by
 obtain⟨a,cap,rfl,h⟩:=h;refine⟨a,cap,rfl,fun hn=> ?_⟩;obtain⟨b,off,rfl,hb',hf⟩:=h hn;exact⟨b,off,rfl,Nat.lt_of_lt_of_le hb' hb.size,fun j hj=>(hf j hj).below hb hb'⟩
theorem bytesF_byte {f:SFact} (h:fok f=true) (hx:F64 f.ex):∀c∈bytesF f,c<256:=by
 intro c hc;unfold bytesF joinB at hc;obtain⟨x,hm,hc⟩:=List.mem_flatMap.1 hc;have h1:=encF_mem h hx x hm;have h2:=rowOk_all _ _ (encF_row h hx).1 x hm;simp only[List.mem_cons] at hc;rcases hc with rfl | rfl | rfl | hc
 · omega
 · omega
 · omega
 · exact h1.2.2 c hc
theorem BRows.read {B:Nat} {v:Value} {xs:List (List Nat)} {vs:List Value} {w:World} (h:BRows B v xs vs w) (hb:∀x∈xs,∀c∈x,c<256):∃a cap,v=.slice a xs.length cap∧RowsIn w a xs:=by
 obtain⟨a,cap,hv⟩:=row_slice h.row;subst hv;refine⟨a,cap,rfl,fun k r hk=> ?_⟩;have hkl:=(List.getElem?_eq_some_iff.1 hk).1;obtain⟨g,cap',hv,_,_,hg,hc,_⟩:=row_form h.row (by omega);simp only[Value.slice.injEq,true_and] at hv;obtain⟨rfl,rfl⟩:=hv;obtain⟨dv,hd⟩:∃dv,vs[k]? =some dv:=⟨_,List.getElem?_eq_getElem (by rw[h.len];exact hkl)⟩
 have hdr:=h.data k r dv hk hd;obtain⟨da,dc,hdv⟩:=row_slice hdr;subst hdv;refine⟨g,0,da,dc,rfl,hg,by rw[Nat.zero_add];exact hc k _ hd,?_,hb r (List.mem_of_getElem? hk),fun hn=> ?_⟩
 · rcases hdr.2 with⟨hv,hz⟩ | ⟨g2,c2,cur,hv,_,_,hle,_⟩
   · rw[hz];exact Nat.zero_le _
   · injection hv with _ _ hv
     rw[hv];exact hle
 · obtain⟨g2,c2,hv,_,_,hg2,hc2,_⟩:=row_form hdr (List.length_pos_iff.2 hn);simp only[Value.slice.injEq,true_and] at hv;obtain⟨rfl,rfl⟩:=hv;refine⟨g2,0,rfl,hg2,fun j c hj=> ?_⟩;rw[Nat.zero_add];refine hc2 j _ ?_;unfold bytesL;rw[List.getElem?_map,hj];rfl
def RowsEnds (fs:List SFact) (w:World) (e:Ending) (w':World):Prop:=∃a n c vs,e=.returned (.slice a n c)∧BRows w.heap.size (.slice a n c) (fs.map bytesF) vs w'∧Below w.heap.size w w'
theorem rows1_of (p N : Nat) (a : Option Addr) (cap : Nat) (fs : List SFact) (ea : Int → Addr) (w0 w : World) (hE : EnvS ea w0) (hb0 : Below w0.heap.size w0 w) (hp : Blk w p #[.slice a N cap]) (hN : N = fs.length) (hF : ReadFacts w (.slice a N cap) fs) (hok : ∀ f ∈ fs, fok f = true ∧ F64 f.ex) (hl : N ≤ 1000) :
    Calls Tryz.prog 108 #[.pointer (some ⟨p,0,none⟩)] w (RowsEnds fs w):=by
 obtain⟨i0,ei,ez,es,eb⟩:=info_parts infoRow;obtain⟨a2,cap2,hv,hr⟩:=hF;simp only[Value.slice.injEq] at hv;obtain⟨rfl,-,rfl⟩:=hv;have HRF:=qq hr;have HNN:=qq hN;have HOK:=qq hok;have HBY:=qq (fun f (hf:f∈fs) W (hW:Below w.heap.size w W)=>fbytes_of f ea W (hE.below (hb0.trans (hW.mono hb0.size))) (hok f hf).1 (hok f hf).2);have HMU:=qq must_of;obtain⟨lp,qp,fp⟩:=hp;clear hr hN hok hE hb0
 go_enter Tryz.func108,Tryz.ntmps108;go_wp2_with fail;go_loopw [2,7] (fun u cc wr=>∃i:Nat,i≤N∧cc=.int .i64 (i:Int)∧Hid (∃vs,BRows w.heap.size u ((fs.take i).map bytesF) vs wr)∧Hid (Below w.heap.size w wr)) (fun _ cc _=>N - (intOf cc).toNat)
 case atStart=>exact⟨0,by omega,by first | rfl | go_num,qq ⟨[],BRows.nil _ _⟩,qq (Below.refl _ _)⟩
 case round=>
  obtain⟨i,hi,rfl,⟨vs,hfl⟩,HB⟩:=hrel;have HF:=qq hfl;have hlen:((fs.take i).map bytesF).length=i:=by rw[List.length_map,List.length_take];have:=HNN.out;omega
  obtain⟨ua,uc,hu⟩:=row_slice hfl.row;rw[hlen] at hu;subst hu;have hi0:(0:Int)≤(i:Int):=by omega
  have HLEN:=qq hlen;clear hfl hlen;by_cases hlt:i<N
  · have hi1:(i:Int)<(N:Int):=by omega
    have hil:i<fs.length:=by have:=HNN.out;omega
    obtain⟨f,hf⟩:∃f,f=fs[i]:=⟨_,rfl⟩
    have hmem:f∈fs:=by rw[hf];exact List.getElem_mem hil
    obtain⟨b,off,rfl,hbl,hcs⟩:=HRF.out (by intro e;rw[e] at hil;cases hil);have hfa:=hcs i hil;rw[←hf] at hfa;have HTK:Hid ((fs.take (i+1)).map bytesF=(fs.take i).map bytesF ++ [bytesF f]):=qq (by rw[List.take_succ_eq_append_getElem hil,List.map_append,hf];rfl);have HBF:=qq (HBY.out f hmem);have hfw:=hfa.below HB.out hbl;have hwr:=HB.out.size;obtain⟨k2,an,aq,rg,nd,pt,pr,oc,dp,pa,st,hw,de,ex⟩:=f
    unfold FactAt at hfw;obtain⟨c0,c1,c2,c3,c4,c5,c6,c7,c8,c9,c10,c11,c12,c13⟩:=hfw;dsimp only at c0 c1 c2 c3 c4 c5 c6 c7 c8 c9 c10 c11 c12 c13;simp only[factV,factC] at HBF;have HB0:=qq (bel_alloc HB.out (.cells #[k2,an,aq,rg,nd,pt,pr,oc,dp,pa,st,hw,de,.float .f64 ex] 39))
    have HF0:=qq (HF.out.heap (w':=wr.alloc (.cells #[k2,an,aq,rg,nd,pt,pr,oc,dp,pa,st,hw,de,.float .f64 ex] 39)) (fun k _ hkl=>((Below.refl wr.heap.size wr).alloc (Nat.le_refl _) _).block k hkl));clear hf hmem hfa hlt hil hcs;go_wp2_with fail;refine(HBF.out _ HB0.out).mono ?_;rintro e w3 ⟨na,nc,rfl,hown,hb3⟩;have HOW:=qq hown;have HB3:=qq (below_then HB0.out hb3)
    have HF3:=qq (HF0.out.heap (w':=w3) (fun k _ hk=>hb3.block k hk));have hw3:=hb3.size;rw[World.size_alloc] at hw3;obtain⟨nl,hnl⟩:∃x,x=(bytesF ⟨k2,an,aq,rg,nd,pt,pr,oc,dp,pa,st,hw,de,ex⟩).length:=⟨_,rfl⟩
    have HNL:=qq hnl;rw[←hnl] at HOW⊢;clear hown hb3 hnl c0 c1 c2 c3 c4 c5 c6 c7 c8 c9 c10 c11 c12 c13;go_wp2_with fail;refine(HMU.out na nl nc _).mono ?_;rintro e w4 ⟨rfl,rfl⟩;have hal:=(Below.refl w3.heap.size w3).alloc (Nat.le_refl _) (.cells #[.slice na nl nc] 65);have HFA:=qq (HF3.out.heap (fun k _ hkl=>hal.block k hkl));have HDA:=qq (row_be HOW.out hal);have HBA:=qq (below_then HB3.out hal)
    have hza:w.heap.size≤(w3.alloc (.cells #[.slice na nl nc] 65)).heap.size:=by simp;omega
    have hrow:(w3.alloc (.cells #[.slice na nl nc] 65)).ownsRow w.heap.size 65 1 (.slice ua i uc) i vs:=by have:=HFA.out.row;rw[HLEN.out] at this;exact this
    clear hal;go_wp2_with (at_builtin;refine wpList_append_own_at _ rfl _ _ 64 rfl w.heap.size 65 i0 (.slice none 0 0) 1 24 Tryz.underlying64 ei ez es eb rfl (by decide) _ _ _ rfl hrow ⟨w3.heap.size,0,none⟩ 1 1 [.slice na nl nc] (by rfl) rfl (lit_cells (Blk.fresh _ _ _ _ rfl)) (fun u hu=>by obtain rfl:=List.mem_singleton.1 hu;rfl) ?d3 ?d4 ?d5 ?_)
    case d3=>unfold maxLen;omega
    case d4=>omega
    case d5=>exact hza
    intro v2 w6 hown hgrow _ hat
    have hsn:=HFA.out.snoc (x:=bytesF ⟨k2,an,aq,rg,nd,pt,pr,oc,dp,pa,st,hw,de,ex⟩) (dv:=.slice na nl nc) (row_mono (B':=(wr.alloc (.cells #[k2,an,aq,rg,nd,pt,pr,oc,dp,pa,st,hw,de,.float .f64 ex] 39)).heap.size) (by rw[←HNL.out];exact HDA.out) (by rw[World.size_alloc];omega)) (fun k hk e=>by have h1:=(HOW.out.lt k hk).1;have h2:=(HF.out.row.lt k e).2;rw[World.size_alloc] at h1;omega) (by rw[HLEN.out];exact hown) (by exact hgrow) (by rw[World.size_alloc];exact hat)
    rw[←HTK.out] at hsn;have HSN:=qq hsn;have HB6:=qq (HBA.out.grown hgrow HBA.out.size (fun j hj=>(HF.out.row.lt j hj).1));clear hown hgrow hat hsn hrow hza;go_wp2_with fail;go_roundw
    case rel=>exact⟨i+1,by omega,by go_num,qq ⟨_,HSN.out⟩,HB6⟩
    case measure=>simp[intOf];omega
  · obtain rfl:i=N:=by omega
    have hall:fs.take i=fs:=List.take_of_length_le (by have:=HNN.out;omega);rw[hall] at HF;clear hall hlt;go_wp2_with fail;go_ret;exact⟨_,_,_,vs,rfl,HF.out,HB.out⟩
theorem rows_of (a : Option Addr) (N cap : Nat) (fs : List SFact) (ea : Int → Addr) (w : World) (hE : EnvS ea w) (hN : N = fs.length) (hF : ReadFacts w (.slice a N cap) fs) (hok : ∀ f ∈ fs, fok f = true ∧ F64 f.ex) (hl : N ≤ 1000) :
    Calls Tryz.prog 30 #[.slice a N cap] w (fun e w'=>∃a2 c2,e=.returned (.tuple #[.slice a2 N c2,.nilIface])∧RowsIn w' a2 (fs.map bytesF)∧Below w.heap.size w w'):=by
 have hmf:∀(fn:Fn) (first cap:Array Value) (w:World),(Instr.makeFunc fn first cap).run Tryz.prog w=.ok (.func fn first cap) w:=fun _ _ _ _=>rfl
 have HBB:=qq (fun x (hx:x∈fs.map bytesF)=>show ∀c∈x,c<256 from by
   obtain⟨f,hf,rfl⟩:=List.mem_map.1 hx;exact bytesF_byte (hok f hf).1 (hok f hf).2)
 have hal:Below w.heap.size w (w.alloc (.cells #[.slice a N cap] 22)):=(Below.refl _ _).alloc (Nat.le_refl _) _;have HTR:=qq (try_gives_frows ⟨w.heap.size,0,none⟩ (fun v W'=>∃vs,BRows (w.heap.size+4) v (fs.map bytesF) vs W') (w.alloc (.cells #[.slice a N cap] 22))
   (fun W' hW' hz=>(rows1_of w.heap.size N a cap fs ea w W' hE (hal.trans (hW'.mono hal.size)) ((Blk.fresh w _ _ _ rfl).below hW') hN (rf_be (rf_be hF hal) hW') hok hl).mono fun e w' he=>by
     obtain⟨a,n,c,vs,h1,h2,h3⟩:=he;exact⟨a,n,c,h1,⟨vs,h2.mono (by simp at hz;omega)⟩,h3⟩)
   (fun v W1 W2 h hz hk=>by
     obtain⟨vs,h1⟩:=h;exact⟨vs,h1.heap (fun k hk1 _=>hk k (.inr (by simp;omega)))⟩))
 have HNN:=qq hN;clear hE hok hF hal hN;go_enter Tryz.func30,Tryz.ntmps30;go_wp2_with fail;refine HTR.out.mono ?_;rintro e w2 ⟨va,vn,vc,rfl,⟨vs,hbr⟩,hb2⟩;have HB2:=qq (below_then (show Below w.heap.size w _ from by go_grown) hb2);have HRD:=qq (hbr.read HBB.out);clear hb2 hbr;go_wp2_with fail
 refine bodyPost_ret (v:=.tuple #[.slice va vn vc,.nilIface]) (by simp[results,Tryz.results30,go_sem]) rfl ?_;obtain⟨a3,c3,h1,h2⟩:=HRD.out;injection h1 with e1 e2 e3
 subst e1 e2 e3;rw[List.length_map,←HNN.out];exact⟨va,vc,rfl,h2,HB2.out⟩
theorem partsF_append:∀(l m:List SPart) (i:Nat),partsF i (l ++m)=partsF i l ++partsF (i+l.length) m
 | [],m,i=>by simp[partsF]
 | p::t,m,i=>by
  show partF i p ++partsF (i+1) (t ++m)=(partF i p ++partsF (i+1) t) ++_
  rw[partsF_append t m (i+1),List.append_assoc];congr 3;simp;omega
theorem partF_len (i:Int) (p:SPart):(partF i p).length≤3:=by
 unfold partF;split<;>split<;>simp
theorem partsF_len:∀(l:List SPart) (i:Nat),(partsF i l).length≤3*l.length
 | [],i=>by simp[partsF]
 | p::t,i=>by
  have h1:=partsF_len t (i+1);have h2:=partF_len i p;show(partF i p ++partsF (i+1) t).length≤_
  rw[List.length_append,List.length_cons];omega
theorem partsF_take {l:List SPart} {k:Nat} {p:SPart} (h:l[k]? =some p):partsF 0 (l.take (k+1))=partsF 0 (l.take k) ++partF k p:=by
 obtain⟨hk,he⟩:=List.getElem?_eq_some_iff.1 h;rw[List.take_succ_eq_append_getElem hk,he,partsF_append,List.length_take,Nat.min_eq_left (Nat.le_of_lt hk),Nat.zero_add];show _ ++(partF k p ++ [])=_
 rw[List.append_nil]
theorem infoFactC:(Tryz.prog.info? 39).map (fun i=>(i.zero,i.size,i.bytes))=some (some (.agg #[.int .i64 0,.int .i64 0,.int .i64 0,.int .i64 0,.int .i64 0,.int .i64 0,.int .i64 0,.int .i64 0,.int .i64 0,.int .i64 0,.int .i64 0,.int .i64 0,.int .i64 0,.float .f64 0]),14,112):=by kernel_rfl
theorem factsL_snoc (fs:List SFact) (f:SFact):factsL (fs ++ [f])=factsL fs ++factL f:=by unfold factsL;rw[List.flatMap_append];simp
theorem partFacts_of (L:SLoc) (S:Sto) (w:World) (h:StoreAt L S w) (hG:StoGood S):Calls Tryz.prog 111 #[.pointer (some ⟨L.sb,0,none⟩)] w (fun e w'=>∃a c,e=.returned (.slice a (partsF 0 S.parts).length c)∧w'.ownsRow w.heap.size 39 14 (.slice a (partsF 0 S.parts).length c) (partsF 0 S.parts).length (factsL (partsF 0 S.parts))∧Below w.heap.size w w'):=by
 obtain⟨i0,ei,ez,es,eb⟩:=info_parts infoFactC;obtain⟨pa,pc,hpv,hpl,hpr⟩:=part_row h.parts;have h8:=hG.parts;obtain⟨n,hn⟩:∃n,n=S.parts.length:=⟨_,rfl⟩
 rw[←hn] at hpr h8;have c3:∀W,Below w.heap.size w W→W.cell? ⟨L.sb,3,none⟩=some (.slice pa n pc):=fun W hW=>by have:=(h.below hW).blk.cell 3;rw[hpv] at this;rw[hn];exact this
 have q3:=c3 w (Below.refl _ _);have hsb:=h.blk.lt;have HPR:=qq hpr;have HN:=qq hn;clear h hG hpr hpv hpl c3 hn;go_enter Tryz.func111,Tryz.ntmps111;go_wp2_with fail;go_loopw [3,11] (fun u cc wr=>∃k:Nat,k≤n∧cc=.int .i64 (k:Int)∧Hid (wr.ownsRow w.heap.size 39 14 u (partsF 0 (S.parts.take k)).length (factsL (partsF 0 (S.parts.take k))))∧Hid (Below w.heap.size w wr)) (fun _ cc _=>n - (intOf cc).toNat)
 case atStart=>exact⟨0,by omega,by first | rfl | go_num,qq (World.ownsRow_nil _ _ _ _),qq (Below.refl _ _)⟩
 case round=>
  obtain⟨k,hk,rfl,HO,HB⟩:=hrel;obtain⟨ua,uc,hu⟩:=row_slice HO.out;subst hu;have hk0:(0:Int)≤(k:Int):=by omega
  obtain⟨m,hm⟩:∃m,m=(partsF 0 (S.parts.take k)).length:=⟨_,rfl⟩
  have hm24:m≤24:=by have h1:=partsF_len (S.parts.take k) 0;rw[List.length_take] at h1;omega
  have HM:=qq hm;rw[←hm] at HO⊢;clear hm;have hwr:=HB.out.size;by_cases hlt:k<n
  · have hk1:(k:Int)<(n:Int):=by omega
    obtain⟨g,rfl,hg,_,hpt⟩:=HPR.out (by omega);obtain⟨p,hp⟩:∃p,S.parts[k]? =some p:=⟨_,List.getElem?_eq_getElem (by have:=HN.out;omega)⟩
    obtain⟨c0,c1,c2,c3,c4,c5,c6⟩:=(hpt k p hp).below HB.out hg;have hgw:g<wr.heap.size:=by omega
    have HTK:=qq (partsF_take hp);obtain⟨an,aq,rg,⟨sp,sd,ss,sh⟩⟩:=p;dsimp only at c0 c1 c2 c3 c4 c5 c6;have hb1:=(Below.refl wr.heap.size wr).alloc (Nat.le_refl _) (.cells #[an,aq,rg,sp,sd,ss,sh] 61);have KP:=qq (Blk.fresh wr #[an,aq,rg,sp,sd,ss,sh] 61 _ rfl)
    have HAT:Hid (∀(W:World) (v:Value) (l:List SFact) (N:Nat),W.ownsRow w.heap.size 39 14 v N (factsL (partsF 0 (S.parts.take k) ++l))→partsF 0 (S.parts.take (k+1))=partsF 0 (S.parts.take k) ++l→N=m+l.length→W.ownsRow w.heap.size 39 14 v (partsF 0 (S.parts.take (k+1))).length (factsL (partsF 0 (S.parts.take (k+1))))):=qq (fun W v l N h1 h2 h3=>by rw[h2,List.length_append,←HM.out,←h3];exact h1)
    clear hp hpt hlt;have HNE:Hid ((Value.slice ua m uc).ownBlock≠some wr.heap.size):=qq (fun e=>by have:=(HO.out.lt _ e).2;omega);have hal:=hb1.alloc (by simp) (.cells #[.int .i64 6,an,aq,.int .i64 0,.int .i64 0,.int .i64 ((k:Int)),sp,.int .i64 0,.int .i64 0,.int .i64 0,.int .i64 0,.int .i64 0,.int .i64 0,.float .f64 0] 39);have hrow:=row_be HO.out hal;have HBA:=qq (below_then HB.out hal)
    have HUB:=qq (fun j hj=>(HO.out.lt j hj));have KA:=qq (KP.out.alloc (.cells #[.int .i64 6,an,aq,.int .i64 0,.int .i64 0,.int .i64 ((k:Int)),sp,.int .i64 0,.int .i64 0,.int .i64 0,.int .i64 0,.int .i64 0,.int .i64 0,.float .f64 0] 39));have hnb:wr.heap.size≤wr.heap.size:=Nat.le_refl _;clear hal
    go_wp2_with (at_builtin;refine wpList_append_own_at _ rfl _ _ 22 rfl w.heap.size 39 i0 (.agg #[.int .i64 0,.int .i64 0,.int .i64 0,.int .i64 0,.int .i64 0,.int .i64 0,.int .i64 0,.int .i64 0,.int .i64 0,.int .i64 0,.int .i64 0,.int .i64 0,.int .i64 0,.float .f64 0]) 14 112 Tryz.underlying22 ei ez es eb rfl (by decide) _ _ _ rfl hrow ⟨wr.heap.size+1,0,none⟩ 1 1 (factL ⟨6,an,aq,0,0,(k:Int),sp,0,0,0,0,0,0,0⟩) (by rfl) rfl (lit_cells (Blk.fresh _ _ _ _ (by simp))) (factL_one ⟨6,an,aq,0,0,(k:Int),sp,0,0,0,0,0,0,0⟩) ?d3_1 ?d4_1 ?d5_1 ?_)
    case d3_1=>unfold maxLen;omega
    case d4_1=>omega
    case d5_1=>exact HBA.out.size
    intro v2 w7 hown hgrow _ hat;obtain⟨ua2,uc2,hu2⟩:=row_slice hown;subst hu2
    have HO2:Hid (w7.ownsRow w.heap.size 39 14 (.slice ua2 (m+1) uc2) (m+1) (factsL (partsF 0 (S.parts.take k) ++ [⟨6,an,aq,0,0,(k:Int),sp,0,0,0,0,0,0,0⟩]))):=qq (by rw[show partsF 0 (S.parts.take k) ++ [⟨6,an,aq,0,0,(k:Int),sp,0,0,0,0,0,0,0⟩]=(partsF 0 (S.parts.take k)) ++ [⟨6,an,aq,0,0,(k:Int),sp,0,0,0,0,0,0,0⟩] by simp,factsL_snoc];exact hown)
    have HB2:=qq (HBA.out.grown hgrow HBA.out.size (fun j hj=>(HUB.out j hj).1));have KP2:=qq (KA.out.same hgrow.size (hgrow.block _ KA.out.lt (fun e=>HNE.out e.symm)));have HNE2:Hid ((Value.slice ua2 (m+1) uc2).ownBlock≠some wr.heap.size):=qq (fun e=>by
      rcases hat with h1 | h1
      · rw[h1] at e;exact HNE.out e
      · rw[h1] at e;injection e with e;have h2:=KP.out.lt;(try simp at e h2);omega)
    clear hown hgrow hrow HUB HBA KA hat HNE;replace HO:=HO2;replace HB:=HB2;replace KP:=KP2;have HNE:=HNE2;clear HO2 HB2 KP2 HNE2;clear hb1;obtain⟨w6,hw6⟩:∃x,x=w7:=⟨_,rfl⟩
    subst hw6;obtain⟨lp,qp,fp⟩:=KP.out;clear fp lp;by_cases h7:rg= -1
    · have hr1:(rg != -1)=false:=by simpa using h7
      by_cases h8s:ss=1
      · have hs1:(ss !=1)=false:=by simpa using h8s
        go_wp2_with fail;go_roundw
        case rel=>exact⟨k+1,by omega,by go_num,qq (HAT.out _ _ [⟨6,an,aq,0,0,(k:Int),sp,0,0,0,0,0,0,0⟩] _ (by simpa using HO.out) (by rw[HTK.out];unfold partF;simp[h7,h8s]) rfl),HB⟩
        case measure=>simp[intOf];omega
      · have hs1:(ss !=1)=true:=by simpa using h8s
        clear qp;obtain⟨lp,qp,fp⟩:=KP.out;have hal:=(Below.refl w6.heap.size w6).alloc (Nat.le_refl _) (.cells #[.int .i64 8,.int .i64 0,.int .i64 0,.int .i64 0,.int .i64 0,.int .i64 ((k:Int)),.int .i64 0,.int .i64 0,.int .i64 0,.int .i64 0,ss,sh,.int .i64 0,.float .f64 0] 39);have hrow:=row_be HO.out hal;have HBA:=qq (below_then HB.out hal);have HUB:=qq (fun j hj=>(HO.out.lt j hj))
        have KA:=qq (KP.out.alloc (.cells #[.int .i64 8,.int .i64 0,.int .i64 0,.int .i64 0,.int .i64 0,.int .i64 ((k:Int)),.int .i64 0,.int .i64 0,.int .i64 0,.int .i64 0,ss,sh,.int .i64 0,.float .f64 0] 39));clear hal
        go_wp2_with (at_builtin;refine wpList_append_own_at _ rfl _ _ 22 rfl w.heap.size 39 i0 (.agg #[.int .i64 0,.int .i64 0,.int .i64 0,.int .i64 0,.int .i64 0,.int .i64 0,.int .i64 0,.int .i64 0,.int .i64 0,.int .i64 0,.int .i64 0,.int .i64 0,.int .i64 0,.float .f64 0]) 14 112 Tryz.underlying22 ei ez es eb rfl (by decide) _ _ _ rfl hrow ⟨w6.heap.size,0,none⟩ 1 1 (factL ⟨8,0,0,0,0,(k:Int),0,0,0,0,ss,sh,0,0⟩) (by rfl) rfl (lit_cells (Blk.fresh _ _ _ _ (by simp))) (factL_one ⟨8,0,0,0,0,(k:Int),0,0,0,0,ss,sh,0,0⟩) ?d3_2 ?d4_2 ?d5_2 ?_)
        case d3_2=>unfold maxLen;omega
        case d4_2=>omega
        case d5_2=>exact HBA.out.size
        intro v2 w7 hown hgrow _ hat;obtain⟨ua2,uc2,hu2⟩:=row_slice hown;subst hu2
        have HO2:Hid (w7.ownsRow w.heap.size 39 14 (.slice ua2 (m+1+1) uc2) (m+1+1) (factsL (partsF 0 (S.parts.take k) ++ [⟨6,an,aq,0,0,(k:Int),sp,0,0,0,0,0,0,0⟩,⟨8,0,0,0,0,(k:Int),0,0,0,0,ss,sh,0,0⟩]))):=qq (by rw[show partsF 0 (S.parts.take k) ++ [⟨6,an,aq,0,0,(k:Int),sp,0,0,0,0,0,0,0⟩,⟨8,0,0,0,0,(k:Int),0,0,0,0,ss,sh,0,0⟩]=(partsF 0 (S.parts.take k) ++ [⟨6,an,aq,0,0,(k:Int),sp,0,0,0,0,0,0,0⟩]) ++ [⟨8,0,0,0,0,(k:Int),0,0,0,0,ss,sh,0,0⟩] by simp,factsL_snoc];exact hown)
        have HB2:=qq (HBA.out.grown hgrow HBA.out.size (fun j hj=>(HUB.out j hj).1));have KP2:=qq (KA.out.same hgrow.size (hgrow.block _ KA.out.lt (fun e=>HNE.out e.symm)));have HNE2:Hid ((Value.slice ua2 (m+1+1) uc2).ownBlock≠some wr.heap.size):=qq (fun e=>by
          rcases hat with h1 | h1
          · rw[h1] at e;exact HNE.out e
          · rw[h1] at e;injection e with e;have h2:=KP.out.lt;(try simp at e h2);omega)
        clear hown hgrow hrow HUB HBA KA hat HNE;replace HO:=HO2;replace HB:=HB2;replace KP:=KP2;have HNE:=HNE2;clear HO2 HB2 KP2 HNE2;obtain⟨w6,hw6⟩:∃x,x=w7:=⟨_,rfl⟩
        subst hw6;obtain⟨lp,qp,fp⟩:=KP.out;clear fp lp;go_wp2_with fail;go_roundw
        case rel=>exact⟨k+1,by omega,by go_num,qq (HAT.out _ _ [⟨6,an,aq,0,0,(k:Int),sp,0,0,0,0,0,0,0⟩,⟨8,0,0,0,0,(k:Int),0,0,0,0,ss,sh,0,0⟩] _ (by simpa using HO.out) (by rw[HTK.out];unfold partF;simp[h7,h8s]) rfl),HB⟩
        case measure=>simp[intOf];omega
    · have hr1:(rg != -1)=true:=by simpa using h7
      have hal:=(Below.refl w6.heap.size w6).alloc (Nat.le_refl _) (.cells #[.int .i64 7,.int .i64 0,.int .i64 0,rg,.int .i64 0,.int .i64 ((k:Int)),.int .i64 0,.int .i64 0,.int .i64 0,.int .i64 0,.int .i64 0,.int .i64 0,.int .i64 0,.float .f64 0] 39);have hrow:=row_be HO.out hal;have HBA:=qq (below_then HB.out hal);have HUB:=qq (fun j hj=>(HO.out.lt j hj))
      have KA:=qq (KP.out.alloc (.cells #[.int .i64 7,.int .i64 0,.int .i64 0,rg,.int .i64 0,.int .i64 ((k:Int)),.int .i64 0,.int .i64 0,.int .i64 0,.int .i64 0,.int .i64 0,.int .i64 0,.int .i64 0,.float .f64 0] 39));clear hal
      go_wp2_with (at_builtin;refine wpList_append_own_at _ rfl _ _ 22 rfl w.heap.size 39 i0 (.agg #[.int .i64 0,.int .i64 0,.int .i64 0,.int .i64 0,.int .i64 0,.int .i64 0,.int .i64 0,.int .i64 0,.int .i64 0,.int .i64 0,.int .i64 0,.int .i64 0,.int .i64 0,.float .f64 0]) 14 112 Tryz.underlying22 ei ez es eb rfl (by decide) _ _ _ rfl hrow ⟨w6.heap.size,0,none⟩ 1 1 (factL ⟨7,0,0,rg,0,(k:Int),0,0,0,0,0,0,0,0⟩) (by rfl) rfl (lit_cells (Blk.fresh _ _ _ _ (by simp))) (factL_one ⟨7,0,0,rg,0,(k:Int),0,0,0,0,0,0,0,0⟩) ?d3_3 ?d4_3 ?d5_3 ?_)
      case d3_3=>unfold maxLen;omega
      case d4_3=>omega
      case d5_3=>exact HBA.out.size
      intro v2 w7 hown hgrow _ hat;obtain⟨ua2,uc2,hu2⟩:=row_slice hown;subst hu2
      have HO2:Hid (w7.ownsRow w.heap.size 39 14 (.slice ua2 (m+1+1) uc2) (m+1+1) (factsL (partsF 0 (S.parts.take k) ++ [⟨6,an,aq,0,0,(k:Int),sp,0,0,0,0,0,0,0⟩,⟨7,0,0,rg,0,(k:Int),0,0,0,0,0,0,0,0⟩]))):=qq (by rw[show partsF 0 (S.parts.take k) ++ [⟨6,an,aq,0,0,(k:Int),sp,0,0,0,0,0,0,0⟩,⟨7,0,0,rg,0,(k:Int),0,0,0,0,0,0,0,0⟩]=(partsF 0 (S.parts.take k) ++ [⟨6,an,aq,0,0,(k:Int),sp,0,0,0,0,0,0,0⟩]) ++ [⟨7,0,0,rg,0,(k:Int),0,0,0,0,0,0,0,0⟩] by simp,factsL_snoc];exact hown)
      have HB2:=qq (HBA.out.grown hgrow HBA.out.size (fun j hj=>(HUB.out j hj).1));have KP2:=qq (KA.out.same hgrow.size (hgrow.block _ KA.out.lt (fun e=>HNE.out e.symm)));have HNE2:Hid ((Value.slice ua2 (m+1+1) uc2).ownBlock≠some wr.heap.size):=qq (fun e=>by
        rcases hat with h1 | h1
        · rw[h1] at e;exact HNE.out e
        · rw[h1] at e;injection e with e;have h2:=KP.out.lt;(try simp at e h2);omega)
      clear hown hgrow hrow HUB HBA KA hat HNE;replace HO:=HO2;replace HB:=HB2;replace KP:=KP2;have HNE:=HNE2;clear HO2 HB2 KP2 HNE2;obtain⟨w6,hw6⟩:∃x,x=w7:=⟨_,rfl⟩
      subst hw6;obtain⟨lp,qp,fp⟩:=KP.out;clear fp lp;by_cases h8s:ss=1
      · have hs1:(ss !=1)=false:=by simpa using h8s
        go_wp2_with fail;go_roundw
        case rel=>exact⟨k+1,by omega,by go_num,qq (HAT.out _ _ [⟨6,an,aq,0,0,(k:Int),sp,0,0,0,0,0,0,0⟩,⟨7,0,0,rg,0,(k:Int),0,0,0,0,0,0,0,0⟩] _ (by simpa using HO.out) (by rw[HTK.out];unfold partF;simp[h7,h8s]) rfl),HB⟩
        case measure=>simp[intOf];omega
      · have hs1:(ss !=1)=true:=by simpa using h8s
        clear qp;obtain⟨lp,qp,fp⟩:=KP.out;have hal:=(Below.refl w6.heap.size w6).alloc (Nat.le_refl _) (.cells #[.int .i64 8,.int .i64 0,.int .i64 0,.int .i64 0,.int .i64 0,.int .i64 ((k:Int)),.int .i64 0,.int .i64 0,.int .i64 0,.int .i64 0,ss,sh,.int .i64 0,.float .f64 0] 39);have hrow:=row_be HO.out hal;have HBA:=qq (below_then HB.out hal);have HUB:=qq (fun j hj=>(HO.out.lt j hj))
        have KA:=qq (KP.out.alloc (.cells #[.int .i64 8,.int .i64 0,.int .i64 0,.int .i64 0,.int .i64 0,.int .i64 ((k:Int)),.int .i64 0,.int .i64 0,.int .i64 0,.int .i64 0,ss,sh,.int .i64 0,.float .f64 0] 39));clear hal
        go_wp2_with (at_builtin;refine wpList_append_own_at _ rfl _ _ 22 rfl w.heap.size 39 i0 (.agg #[.int .i64 0,.int .i64 0,.int .i64 0,.int .i64 0,.int .i64 0,.int .i64 0,.int .i64 0,.int .i64 0,.int .i64 0,.int .i64 0,.int .i64 0,.int .i64 0,.int .i64 0,.float .f64 0]) 14 112 Tryz.underlying22 ei ez es eb rfl (by decide) _ _ _ rfl hrow ⟨w6.heap.size,0,none⟩ 1 1 (factL ⟨8,0,0,0,0,(k:Int),0,0,0,0,ss,sh,0,0⟩) (by rfl) rfl (lit_cells (Blk.fresh _ _ _ _ (by simp))) (factL_one ⟨8,0,0,0,0,(k:Int),0,0,0,0,ss,sh,0,0⟩) ?d3_4 ?d4_4 ?d5_4 ?_)
        case d3_4=>unfold maxLen;omega
        case d4_4=>omega
        case d5_4=>exact HBA.out.size
        intro v2 w7 hown hgrow _ hat;obtain⟨ua2,uc2,hu2⟩:=row_slice hown;subst hu2
        have HO2:Hid (w7.ownsRow w.heap.size 39 14 (.slice ua2 (m+1+1+1) uc2) (m+1+1+1) (factsL (partsF 0 (S.parts.take k) ++ [⟨6,an,aq,0,0,(k:Int),sp,0,0,0,0,0,0,0⟩,⟨7,0,0,rg,0,(k:Int),0,0,0,0,0,0,0,0⟩,⟨8,0,0,0,0,(k:Int),0,0,0,0,ss,sh,0,0⟩]))):=qq (by rw[show partsF 0 (S.parts.take k) ++ [⟨6,an,aq,0,0,(k:Int),sp,0,0,0,0,0,0,0⟩,⟨7,0,0,rg,0,(k:Int),0,0,0,0,0,0,0,0⟩,⟨8,0,0,0,0,(k:Int),0,0,0,0,ss,sh,0,0⟩]=(partsF 0 (S.parts.take k) ++ [⟨6,an,aq,0,0,(k:Int),sp,0,0,0,0,0,0,0⟩,⟨7,0,0,rg,0,(k:Int),0,0,0,0,0,0,0,0⟩]) ++ [⟨8,0,0,0,0,(k:Int),0,0,0,0,ss,sh,0,0⟩] by simp,factsL_snoc];exact hown)
        have HB2:=qq (HBA.out.grown hgrow HBA.out.size (fun j hj=>(HUB.out j hj).1));have KP2:=qq (KA.out.same hgrow.size (hgrow.block _ KA.out.lt (fun e=>HNE.out e.symm)));have HNE2:Hid ((Value.slice ua2 (m+1+1+1) uc2).ownBlock≠some wr.heap.size):=qq (fun e=>by
          rcases hat with h1 | h1
          · rw[h1] at e;exact HNE.out e
          · rw[h1] at e;injection e with e;have h2:=KP.out.lt;(try simp at e h2);omega)
        clear hown hgrow hrow HUB HBA KA hat HNE;replace HO:=HO2;replace HB:=HB2;replace KP:=KP2;have HNE:=HNE2;clear HO2 HB2 KP2 HNE2;obtain⟨w6,hw6⟩:∃x,x=w7:=⟨_,rfl⟩
        subst hw6;obtain⟨lp,qp,fp⟩:=KP.out;clear fp lp;go_wp2_with fail;go_roundw
        case rel=>exact⟨k+1,by omega,by go_num,qq (HAT.out _ _ [⟨6,an,aq,0,0,(k:Int),sp,0,0,0,0,0,0,0⟩,⟨7,0,0,rg,0,(k:Int),0,0,0,0,0,0,0,0⟩,⟨8,0,0,0,0,(k:Int),0,0,0,0,ss,sh,0,0⟩] _ (by simpa using HO.out) (by rw[HTK.out];unfold partF;simp[h7,h8s]) rfl),HB⟩
        case measure=>simp[intOf];omega
  · obtain rfl:k=n:=by omega
    have hall:S.parts.take k=S.parts:=List.take_of_length_le (by have:=HN.out;omega);rw[hall] at HO HM;clear hall hlt;go_wp2_with fail;go_ret;exact⟨_,_,by rw[←HM.out];rfl,by rw[←HM.out];exact HO.out,HB.out⟩
section
variable {P:Program} {ops:Array Oper} {Q:Exit→Act→World→Prop} {md:Region.Mode} {S:World→Prop} {ex:Nat→Bool}
def wpAnyX (P:Program) (md:Region.Mode) (ops:Array Oper) (Q:Exit→Act→World→Prop) (ex:Nat→Bool) (S:World→Prop):Nat→Array Bool→Act→World→Prop
 | 0,listed,a,w=>Region.ready md ops listed=[]∧Q .normal a w
 | fuel+1,listed,a,w=>
  (Region.ready md ops listed=[]→Q .normal a w)∧
  ∀i∈Region.ready md ops listed,wpOp P ops Q i (fun a' w'=>(ex i=true∨S w')∧wpAnyX P md ops Q ex S fuel (listed.setIfInBounds i true) a' w') a w
theorem wpAny_of_X:∀(fuel:Nat) (listed:Array Bool) (a:Act) (w:World),wpAnyX P md ops Q ex S fuel listed a w→wpAny P md ops Q fuel listed a w
 | 0,_,_,_,h=>h
 | fuel+1,_,_,_,h=>⟨h.1,fun i hi=>wpOp_mono (fun a' w' h'=>wpAny_of_X fuel _ a' w' h'.2) (h.2 i hi)⟩
def waitsX (md:Region.Mode) (ops:Array Oper) (ex:Nat→Bool) (i:Nat):Bool:=(List.range ops.size).all fun j=> !ex j || match ops[j]? with
 | none=>true
 | some oj=>oj.after.any (fun e=>Region.binds md e && e.on==i)
theorem wpAnyX_first {i : Nat} {oi : Oper} {v : Value} (hi : ops[i]? = some oi) (hwx : waitsX md ops ex i = true) (hsel : ∀ (j : Nat) (o : Oper) cs b, ops[j]? = some o → o.op ≠ .select cs b)
    (hQ:∀c a w,Q (.panic c) (a.put oi.dst v) w→Q (.panic c) a w):
    ∀(fuel:Nat) (listed:Array Bool) (a:Act) (w:World),
     (∀j oj,ops[j]? =some oj→j≠i→listed.getD j true=false→(∀e∈oj.after,Region.binds md e=true→e.on≠i)→oi.apart ops oj=true)→
     i∈Region.ready md ops listed→YieldsIf P ops S oi v a→S w→
     wpAnyX P md ops Q ex S fuel (listed.setIfInBounds i true) (a.put oi.dst v) w→wpAnyX P md ops Q ex S (fuel+1) listed a w:=by
 intro fuel
 induction fuel with
 | zero=>
  intro listed a w _ hr hy hS H;refine⟨fun h=>(by rw[h] at hr;cases hr),fun j hj=> ?_⟩;by_cases hji:j=i
  · subst hji;exact hy.wpOp hi hS ⟨.inr hS,H⟩
  · have:=ready_mono hj hji;rw[H.1] at this
    cases this
 | succ fuel ih=>
  intro listed a w hfree hr hy hS H;refine⟨fun h=>(by rw[h] at hr;cases hr),fun j hj=> ?_⟩;by_cases hji:j=i
  · subst hji;exact hy.wpOp hi hS ⟨.inr hS,H⟩
  · obtain⟨hjun,oj,hoj,hall⟩:=mem_ready.1 hj;have hnot:∀e∈oj.after,Region.binds md e=true→e.on≠i:=fun e he hb heq=>by
     have h1:=hall e he hb;have h0:=(mem_ready.1 hr).1;rw[heq] at h1;rcases Nat.lt_or_ge i listed.size with h' | h'
     · simp[h'] at h0 h1;rw[h0] at h1;cases h1
     · simp[Array.getElem?_eq_none h'] at h1
    have hl:ex j=false:=by
     cases hx:ex j with
     | false=>rfl
     | true=>
      have h1:=List.all_eq_true.1 hwx j (List.mem_range.2 (Array.getElem?_eq_some_iff.1 hoj).1);rw[hx,hoj] at h1;simp only[Bool.not_true,Bool.false_or] at h1;obtain⟨e,he,hb⟩:=Array.any_eq_true'.1 h1;simp only[Bool.and_eq_true,beq_iff_eq] at hb;exact absurd hb.2 (hnot e he hb.1)
    have h1:=wpOp_mono (K':=fun a' w'=>S w'∧wpAnyX P md ops Q ex S fuel ((listed.setIfInBounds i true).setIfInBounds j true) a' w') (fun a' w' h'=>⟨h'.1.resolve_left (by rw[hl];simp),h'.2⟩) (H.2 j (ready_mono hj hji));have h2:=wpOp_putIf hoj (hfree j oj hoj hji hjun hnot) (fun cs b=>hsel i oi cs b hi) (fun cs b=>hsel j oj cs b hoj) hQ hy h1
    refine wpOp_mono (fun a' w' h3=>⟨.inr h3.2.1,ih (listed.setIfInBounds j true) a' w' (fun k ok hk hki hun hno=>hfree k ok hk hki ?_ hno) (ready_mono hr (Ne.symm hji)) h3.1 h3.2.1 ?_⟩) h2
    · by_cases hjk:j=k
      · subst hjk;exact hjun
      · rw[getD_set_ne true hjk] at hun;exact hun
    · rw[Array.setIfInBounds_comm _ _ hji];exact h3.2.2
theorem takeX {fuel : Nat} {listed : Array Bool} {a : Act} {w : World} {oi : Oper} {d : Option Tmp} {v : Value}
    (i:Nat) (hi:ops[i]? =some oi) (hd:oi.dst=d) (hS:S w) (hy:∀w,S w→(execOp a.eval oi).run P w=.ok (.value v) w) (h:wpAnyX P md ops Q ex S fuel (listed.setIfInBounds i true) (a.put d v) w)
    (hs:Region.noSelect ops=true:=by kernel_rfl) (hf:Region.free md ops listed i=true:=by kernel_rfl) (hr:(Region.ready md ops listed).contains i=true:=by kernel_rfl) (hwx:waitsX md ops ex i=true:=by kernel_rfl)
    (hQ:∀c a w,Q (.panic c) (a.put oi.dst v) w→Q (.panic c) a w:=by exact fun _ _ _ h=>h) (hw:Region.wanted oi (yielded ops a.tmps)=true:=by rfl):wpAnyX P md ops Q ex S (fuel+1) listed a w:=by
 subst hd;exact wpAnyX_first hi hwx (Region.noSelect_spec hs) hQ fuel listed a w (Region.free_spec hi hf) (by simpa using hr) (.inl ⟨hw,hy⟩) hS h
theorem doneX {listed:Array Bool} {a:Act} {w:World} (hr:Region.ready md ops listed=[]) (h:Q .normal a w):∀fuel,wpAnyX P md ops Q ex S fuel listed a w
 | 0=>⟨hr,h⟩
 | _+1=>⟨fun _=>h,by rw[hr];simp⟩
theorem one_X {fuel : Nat} {listed : Array Bool} {a : Act} {w : World} (i : Nat) (hr : Region.ready md ops listed = [i])
    (h:wpOp P ops Q i (fun a' w'=>(ex i=true∨S w')∧wpAnyX P md ops Q ex S fuel (listed.setIfInBounds i true) a' w') a w):wpAnyX P md ops Q ex S (fuel+1) listed a w:=
 ⟨fun h0=>absurd (hr▸h0) (by simp),fun k hk=>by
   rw[hr] at hk;obtain rfl:k=i:=by simpa using hk
   exact h⟩
theorem pure_X {fuel : Nat} {listed : Array Bool} {a : Act} {w : World} {oi : Oper} {d : Option Tmp} {v : Value} (i : Nat) (hi : ops[i]? = some oi) (hd : oi.dst = d) (hS : S w) (hrun : (execOp a.eval oi).run P w = .ok (.value v) w)
    (h:wpAnyX P md ops Q ex S fuel (listed.setIfInBounds i true) (a.put d v) w) (hr:Region.ready md ops listed=[i]:=by kernel_rfl) (hw:Region.wanted oi (yielded ops a.tmps)=true:=by rfl):wpAnyX P md ops Q ex S (fuel+1) listed a w:=
 one_X i hr (wpOp_alone i v _ hi hd hw hrun (show _ from⟨.inr hS,h⟩))
theorem new_X {fuel : Nat} {listed : Array Bool} {a : Act} {w : World} {oi : Oper} {d : Option Tmp} (i : Nat) (v : Value) (C : Array Value) (T : TypeId) (hi : ops[i]? = some oi) (hd : oi.dst = d) (hrun : (execOp a.eval oi).run P w = .ok (.value v) (w.alloc (.cells C T))) (hS : S (w.alloc (.cells C T)))
    (h:S (w.alloc (.cells C T))→Blk (w.alloc (.cells C T)) w.heap.size C→wpAnyX P md ops Q ex S fuel (listed.setIfInBounds i true) (a.put d v) (w.alloc (.cells C T))) (hr:Region.ready md ops listed=[i]:=by kernel_rfl)
    (hw:Region.wanted oi (yielded ops a.tmps)=true:=by rfl):wpAnyX P md ops Q ex S (fuel+1) listed a w:=
 one_X i hr (wpOp_alone i v _ hi hd hw hrun (show _ from⟨.inr hS,h hS (Blk.fresh _ _ _ _ rfl)⟩))
end
section
variable {P:Program} {ops:Array Oper} {Q:Exit→Act→World→Prop} {l n:Nat}
end
theorem app_X {Q : Exit → Act → World → Prop} {ops : Array Oper} {md : Region.Mode} {ex : Nat → Bool} {S : World → Prop} {fuel : Nat} {listed : Array Bool} {a : Act} {w : World} {oi : Oper} {d : Option Tmp} (i : Nat) (hi : ops[i]? = some oi) (hd : oi.dst = d) (hgd : oi.guard = none) (s x : Operand) (t : TypeId)
    (ho:oi.op=.call {callee:=.builtin .append,args:= #[s,x],argTypes:= #[t,t]})
    (base:Nat) (e:TypeId) (inf:TypeInfo) (z:Value) (size bytes:Nat) (ht:Tryz.prog.underlying t=some (.slice e)) (hinf:Tryz.prog.info? e=some inf) (hz:inf.zero=some z)
    (hsize:inf.size=size) (hby:inf.bytes=bytes) (hzs:z.cells.size=size) (hsz:0<size)
    (v:Value) (n:Nat) (xs:List Value) (hs:a.eval s=v) (hown:w.ownsRow base e size v n xs)
    (ad:Addr) (m c:Nat) (news:List Value) (hx:a.eval x=.slice (some ad) m c) (hl:news.length=m*size) (hnews:∀j u,news[j]? =some u→w.cell? (ad.add j)=some u) (h1:∀u∈news,u.oneCell'=true)
    (h63:n+m≤maxLen) (hbytes:(n+m)*bytes≤140737488355328) (hbase:base≤w.heap.size)
    (h:∀v' w',w'.ownsRow base e size v' (n+m) (xs ++news)→w.grownBy w' v.ownBlock→(v'.ownBlock=v.ownBlock∨v'.ownBlock=some w.heap.size)→(ex i=true∨S w')∧wpAnyX Tryz.prog md ops Q ex S fuel (listed.setIfInBounds i true) (a.put d v') w')
    (hr:Region.ready md ops listed=[i]:=by kernel_rfl):wpAnyX Tryz.prog md ops Q ex S (fuel+1) listed a w:=by
 subst hd;refine one_X i hr (wpOp_step hi (fun K' hK=> ?_));refine step_app hgd s x t ho base e inf z size bytes ht hinf hz hsize hby hzs hsz v n xs hs hown ad m c news hx hl hnews h1 h63 hbytes hbase ?_;intro v' w' h2 h3 h4;exact hK _ _ (h v' w' h2 h3 h4)
theorem reg_startZ {P : Program} {ops : Array Oper} {Q : Exit → Act → World → Prop} {id : Nat} {a : Act} {w : World} (F E : World → Prop) (hm : P.follows .mixedOrders = true) (hF : F w.drew) (hE : E w.drew) (ex : Nat → Bool)
    (h:∀w1,F w1→E w1→wpAnyX P .any ops Q ex F ops.size (Array.replicate ops.size false) a w1):(Code.region id ops true).wp P Q a w:=wp_region_any hm (wpAny_of_X _ _ _ _ (h _ hF hE))
def KeepZ (o:Option Nat) (w w':World):Prop:=w.heap.size≤w'.heap.size∧∀k,k<w.heap.size→o≠some k→w'.heap[k]? =w.heap[k]?
theorem KeepZ.of_below {o:Option Nat} {w w':World} (h:Below w.heap.size w w'):KeepZ o w w':=⟨h.size,fun k hk _=>h.block k hk⟩
theorem KeepZ.alloc {o:Option Nat} {w w':World} (h:KeepZ o w w') (x:Obj):KeepZ o w (w'.alloc x):=⟨Nat.le_trans h.1 (by simp),fun k hk hn=>(((Below.refl _ _).alloc (Nat.le_refl _) x).block k (Nat.lt_of_lt_of_le hk h.1)).trans (h.2 k hk hn)⟩
theorem KeepZ.grown {o:Option Nat} {w w1 w2:World} (h:KeepZ o w w1) (hg:w1.grownBy w2 o):KeepZ o w w2:=⟨Nat.le_trans h.1 hg.size,fun k hk hn=>(hg.block k (Nat.lt_of_lt_of_le hk h.1) (fun e=>hn e.symm)).trans (h.2 k hk hn)⟩
theorem KeepZ.blk {o:Option Nat} {w w':World} {b:Nat} {C:Array Value} (h:KeepZ o w w') (hb:Blk w b C) (hn:o≠some b):Blk w' b C:=hb.same h.1 (h.2 b hb.lt hn)
theorem KeepZ.row {o:Option Nat} {w w':World} {B:Nat} {e:TypeId} {size:Nat} {v:Value} {n:Nat} {xs:List Value} (h:KeepZ o w w') (hr:w.ownsRow B e size v n xs) (hn:∀k,v.ownBlock=some k→o≠some k):w'.ownsRow B e size v n xs:=row_heap hr (fun k hk=>h.2 k (hr.lt k hk).2 (hn k hk))
theorem enrF_append (a:SAct):∀(l m:List SReg) (i:Nat),enrF a i (l ++m)=enrF a i l ++enrF a (i+l.length) m
 | [],m,i=>by simp[enrF]
 | r::t,m,i=>by
  show _::enrF a (i+1) (t ++m)=(_::enrF a (i+1) t) ++_
  rw[enrF_append a t m (i+1),List.cons_append];congr 3;simp;omega
theorem seatF_append (a:SAct):∀(l m:List SReg) (i:Nat),seatF a i (l ++m)=seatF a i l ++seatF a (i+l.length) m
 | [],m,i=>by simp[seatF]
 | r::t,m,i=>by
  show _ ++seatF a (i+1) (t ++m)=(_ ++seatF a (i+1) t) ++_
  rw[seatF_append a t m (i+1),List.append_assoc];congr 3;simp;omega
theorem enrF_len (a:SAct):∀(l:List SReg) (i:Nat),(enrF a i l).length=l.length
 | [],i=>rfl
 | r::t,i=>by show(enrF a (i+1) t).length+1=_;rw[enrF_len a t (i+1)];rfl
theorem seatF_len (a:SAct):∀(l:List SReg) (i:Nat),(seatF a i l).length≤l.length
 | [],i=>by simp[seatF]
 | r::t,i=>by
  have h:=seatF_len a t (i+1);unfold seatF;rw[List.length_append,List.length_cons];split<;>simp<;>omega
theorem enrF_take {a:SAct} {l:List SReg} {j:Nat} {r:SReg} (h:l[j]? =some r):enrF a 0 (l.take (j+1))=enrF a 0 (l.take j) ++ [⟨2,a.an,a.aq,(j:Int),r.n,r.p,r.seat.p,0,0,0,0,0,0,0⟩]:=by
 obtain⟨hk,he⟩:=List.getElem?_eq_some_iff.1 h;rw[List.take_succ_eq_append_getElem hk,he,enrF_append,List.length_take,Nat.min_eq_left (Nat.le_of_lt hk),Nat.zero_add];rfl
theorem seatF_take {a:SAct} {l:List SReg} {j:Nat} {r:SReg} (h:l[j]? =some r):seatF a 0 (l.take (j+1))=seatF a 0 (l.take j) ++(if r.seat.s=1 then[] else[⟨3,a.an,a.aq,(j:Int),0,0,0,0,0,0,r.seat.s,r.seat.h,0,0⟩]):=by
 obtain⟨hk,he⟩:=List.getElem?_eq_some_iff.1 h;rw[List.take_succ_eq_append_getElem hk,he,seatF_append,List.length_take,Nat.min_eq_left (Nat.le_of_lt hk),Nat.zero_add];show _ ++(_ ++ [])=_
 rw[List.append_nil]
theorem actF_len {a:SAct} (h:a.regs.length≤6):(actF a).length≤14:=by
 have h1:=enrF_len a a.regs 0;have h2:=seatF_len a a.regs 0;unfold actF;simp only[List.length_cons,List.length_append];split<;>simp<;>omega
theorem flatF_len:∀(l:List SAct),(∀a∈l,a.regs.length≤6)→(l.flatMap actF).length≤14*l.length
 | [],_=>by simp
 | a::t,h=>by
  have h1:=actF_len (h a (by simp));have h2:=flatF_len t (fun b hb=>h b (by simp[hb]));rw[List.flatMap_cons,List.length_append,List.length_cons];omega
theorem flatF_take {l:List SAct} {k:Nat} {a:SAct} (h:l[k]? =some a):(l.take (k+1)).flatMap actF=(l.take k).flatMap actF ++actF a:=by
 obtain⟨hk,he⟩:=List.getElem?_eq_some_iff.1 h;rw[List.take_succ_eq_append_getElem hk,he,List.flatMap_append];simp
structure FRow (B cb:Nat) (C:Array Value) (v:Value) (fs:List SFact) (w0 w:World):Prop where
 row:w.ownsRow B 39 14 v fs.length (factsL fs)
 blk:Blk w cb C
 ne:v.ownBlock≠some cb
 be:Below w0.heap.size w0 w
theorem FRow.below {B cb:Nat} {C:Array Value} {v:Value} {fs:List SFact} {w0 w w':World} (h:FRow B cb C v fs w0 w) (hb:Below w.heap.size w w'):FRow B cb C v fs w0 w':=⟨row_be h.row hb,h.blk.below hb,h.ne,below_then h.be hb⟩
theorem FRow.snoc {B cb:Nat} {C:Array Value} {v v2:Value} {fs:List SFact} {f:SFact} {w0 w1 w2:World} (h:FRow B cb C v fs w0 w1) (hB:w0.heap.size≤B) (hown:w2.ownsRow B 39 14 v2 (fs.length+1) (factsL fs ++factL f)) (hg:w1.grownBy w2 v.ownBlock) (hat:v2.ownBlock=v.ownBlock∨v2.ownBlock=some w1.heap.size):FRow B cb C v2 (fs ++ [f]) w0 w2:=
 ⟨by rw[List.length_append,factsL_snoc];exact hown,h.blk.same hg.size (hg.block _ h.blk.lt (fun e=>h.ne e.symm)),fun e=>by
   rcases hat with h1 | h1
   · exact h.ne (by rw[←h1];exact e)
   · have:=h.blk.lt;rw[h1] at e;injection e with e
     omega,h.be.grown hg h.be.size (fun j hj=>Nat.le_trans hB (h.row.lt j hj).1)⟩
theorem actFacts_of (L:SLoc) (S:Sto) (w:World) (h:StoreAt L S w) (hG:StoGood S):Calls Tryz.prog 112 #[.pointer (some ⟨L.sb,0,none⟩)] w (fun e w'=>∃a c,e=.returned (.slice a (S.acts.flatMap actF).length c)∧w'.ownsRow w.heap.size 39 14 (.slice a (S.acts.flatMap actF).length c) (S.acts.flatMap actF).length (factsL (S.acts.flatMap actF))∧Below w.heap.size w w'):=by
 obtain⟨i0,ei,ez,es,eb⟩:=info_parts infoFactC;obtain⟨aa,ac,hav,hal,har⟩:=ptr_row h.acts;have h8:=hG.acts;have HLN:=qq (fun a (ha:a∈S.acts)=>(hG.act a ha).len);have HHL:=qq h.len;obtain⟨n,hn⟩:∃n,n=S.acts.length:=⟨_,rfl⟩
 rw[←hn] at har h8;have c2:∀W,Below w.heap.size w W→W.cell? ⟨L.sb,2,none⟩=some (.slice aa n ac):=fun W hW=>by have:=(h.below hW).blk.cell 2;rw[hav] at this;rw[hn];exact this
 have q2:=c2 w (Below.refl _ _);have hsb:=h.blk.lt;have HAR:=qq har;have HN:=qq hn;have HACT:=qq h.act;clear h hG har hal hav c2 hn;go_enter Tryz.func112,Tryz.ntmps112;go_wp2_with fail
 go_loopw [3,16] (fun u cc wr=>∃k:Nat,k≤n∧cc=.int .i64 (k:Int)∧Hid (wr.ownsRow w.heap.size 39 14 u ((S.acts.take k).flatMap actF).length (factsL ((S.acts.take k).flatMap actF)))∧Hid (Below w.heap.size w wr)) (fun _ cc _=>n - (intOf cc).toNat)
 case atStart=>exact⟨0,by omega,by first | rfl | go_num,qq (World.ownsRow_nil _ _ _ _),qq (Below.refl _ _)⟩
 case round=>
  obtain⟨k,hk,rfl,HO,HB⟩:=hrel;obtain⟨ua,uc,hu⟩:=row_slice HO.out;subst hu;have hk0:(0:Int)≤(k:Int):=by omega
  have HPL0:Hid (((S.acts.take k).flatMap actF).length≤112):=qq (by have h1:=flatF_len (S.acts.take k) (fun a ha=>HLN.out a (List.mem_of_mem_take ha));rw[List.length_take] at h1;omega);obtain⟨m,hm⟩:∃m,m=((S.acts.take k).flatMap actF).length:=⟨_,rfl⟩
  have HM:=qq hm;have hm112:m≤112:=by rw[hm];exact HPL0.out
  rw[←hm] at HO⊢;clear hm;have hwr:=HB.out.size;by_cases hlt:k<n
  · have hk1:(k:Int)<(n:Int):=by omega
    have hks:k<S.acts.length:=by rw[←HN.out];exact hlt
    obtain⟨g,rfl,hg,_,hpt⟩:=HAR.out (by omega);obtain⟨x,hx⟩:∃x,L.ab[k]? =some x:=⟨_,List.getElem?_eq_getElem (by rw[HHL.out];exact hks)⟩
    obtain⟨a,ha⟩:∃a,S.acts[k]? =some a:=⟨_,List.getElem?_eq_getElem hks⟩
    obtain⟨hbk,hrg⟩:=HACT.out k x a hx ha;have hp:=(HB.out.cell (p:=⟨g,k,none⟩) hg).trans (hpt k x hx);have hgw:g<wr.heap.size:=by omega
    have HTK:=qq (flatF_take ha);have hl6:=HLN.out a (List.mem_of_getElem? ha);obtain⟨rga,rgc,hrv,hrl,hrr⟩:=reg_row hrg;obtain⟨xb,xv⟩:=x;obtain⟨an,aq,oc,dp,ex,pa,de,rs⟩:=a;dsimp only at hbk hrv hrl hrr hl6 hp HTK;obtain⟨nr,hnr⟩:∃r,r=rs.length:=⟨_,rfl⟩
    have HNR:=qq hnr;rw[←hnr] at hrv hrl hrr hl6;subst hrv;have HXB:=qq hbk;have HRR:=qq hrr;have hxb:=hbk.lt;obtain⟨pl,hpl⟩:∃l,l=(S.acts.take k).flatMap actF:=⟨_,rfl⟩
    have HPL:Hid (pl.length=m):=qq (by rw[hpl];exact HM.out.symm);rw[←hpl] at HO HTK;have qx:=(hbk.below HB.out).cell;have KC:=qq (Blk.fresh wr #[an,aq,oc,dp,.float .f64 ex] 48 _ rfl);have hb1:=(Below.refl wr.heap.size wr).alloc (Nat.le_refl _) (.cells #[an,aq,oc,dp,.float .f64 ex] 48)
    have HC:Hid (FRow w.heap.size wr.heap.size #[.int .i64 an,.int .i64 aq,.int .i64 oc,.int .i64 dp,.float .f64 ex] (.slice ua m uc) pl w (wr.alloc (.cells #[an,aq,oc,dp,.float .f64 ex] 48))):=qq ⟨row_be (by rw[HPL.out];exact HO.out) hb1,KC.out,fun e=>by have:=(HO.out.lt _ e).2;omega,below_then HB.out hb1⟩;clear hx ha hbk hrg hpt hrr hrl hnr hpl hb1 hlt;go_wp2_with fail
    obtain⟨w8,hw8⟩:∃w8,w8=wr.alloc (.cells #[an,aq,oc,dp,.float .f64 ex] 48):=⟨_,rfl⟩
    obtain⟨cb,hcb⟩:∃b,b=wr.heap.size:=⟨_,rfl⟩
    simp only[←hw8,←hcb] at*;clear qx hw8 KC hp;obtain⟨ob,hob⟩:∃ob,ob=(Value.slice ua (m) uc).ownBlock:=⟨_,rfl⟩
    have NC:ob≠some cb:=fun e=>HC.out.ne (by rw[←hob];exact e)
    have NX:ob≠some xb:=fun e=>by rw[hob] at e;have:=(HC.out.row.lt _ e).1;omega
    have HXW:=qq (HXB.out.below HC.out.be);have hzb:=HC.out.be.size;refine reg_startZ (fun w'=>KeepZ ob w8 w'∧Below w.heap.size w w') (Below w8.heap.size w8) (by kernel_rfl) ⟨.of_below (Below.refl _ _).drew,bel_drew HC.out.be⟩ (Below.refl _ _).drew (fun _=>false) ?_;intro w9 hHeld hb9;refine takeX (d:=some 24) 0 rfl rfl hHeld (fun w' hS'=>by clear hS';go_simp;(try rfl)) ?_;simp only[puts]
    refine takeX (d:=some 25) 1 rfl rfl hHeld (fun w' hS'=>by clear hS';go_simp;(try rfl)) ?_;simp only[puts];refine takeX (d:=some 26) 2 rfl rfl hHeld (fun w' hS'=>by have qA:=(hS'.1.blk HC.out.blk NC).cell;clear hS';go_simp;(try rfl)) ?_;simp only[puts];refine takeX (d:=some 27) 3 rfl rfl hHeld (fun w' hS'=>by clear hS';go_simp;(try rfl)) ?_;simp only[puts]
    refine takeX (d:=some 28) 4 rfl rfl hHeld (fun w' hS'=>by have qA:=(hS'.1.blk HC.out.blk NC).cell;clear hS';go_simp;(try rfl)) ?_;simp only[puts];refine takeX (d:=some 29) 5 rfl rfl hHeld (fun w' hS'=>by clear hS';go_simp;(try rfl)) ?_;simp only[puts];refine takeX (d:=some 30) 6 rfl rfl hHeld (fun w' hS'=>by have qA:=(hS'.1.blk HC.out.blk NC).cell;clear hS';go_simp;(try rfl)) ?_
    simp only[puts];refine takeX (d:=some 31) 7 rfl rfl hHeld (fun w' hS'=>by clear hS';go_simp;(try rfl)) ?_;simp only[puts];refine takeX (d:=some 32) 8 rfl rfl hHeld (fun w' hS'=>by have qA:=(hS'.1.blk HC.out.blk NC).cell;clear hS';go_simp;(try rfl)) ?_;simp only[puts];refine takeX (d:=some 33) 9 rfl rfl hHeld (fun w' hS'=>by clear hS';go_simp;(try rfl)) ?_;simp only[puts]
    refine takeX (d:=some 34) 10 rfl rfl hHeld (fun w' hS'=>by clear hS';go_simp;(try rfl)) ?_;simp only[puts];refine takeX (d:=some 35) 11 rfl rfl hHeld (fun w' hS'=>by clear hS';go_simp;(try rfl)) ?_;simp only[puts];refine takeX (d:=some 36) 12 rfl rfl hHeld (fun w' hS'=>by have qA:=(hS'.1.blk HXW.out NX).cell;clear hS';go_simp;(try rfl)) ?_;simp only[puts]
    refine takeX (d:=some 37) 13 rfl rfl hHeld (fun w' hS'=>by clear hS';go_simp;(try rfl)) ?_;simp only[puts];have hb10:=hb9.alloc hb9.size (.cells #[.int .i64 1,an,aq,.int .i64 0,.int .i64 0,.int .i64 0,.int .i64 0,oc,dp,pa,.int .i64 0,.int .i64 0,.int .i64 0,.float .f64 ex] 39)
    refine new_X (d:=some 38) 14 (.slice (some ⟨w9.heap.size,0,none⟩) 1 1) #[.int .i64 1,.int .i64 an,.int .i64 aq,.int .i64 0,.int .i64 0,.int .i64 0,.int .i64 0,.int .i64 oc,.int .i64 dp,.int .i64 pa,.int .i64 0,.int .i64 0,.int .i64 0,.float .f64 ex] 39 rfl rfl (by go_simp) ⟨hHeld.1.alloc _,bel_alloc hHeld.2 _⟩ ?_;intro hS10 kF;simp only[puts]
    refine app_X (d:=some 39) 15 rfl rfl rfl (.tmp 24) (.tmp 38) 22 rfl w.heap.size 39 i0 (.agg #[.int .i64 0,.int .i64 0,.int .i64 0,.int .i64 0,.int .i64 0,.int .i64 0,.int .i64 0,.int .i64 0,.int .i64 0,.int .i64 0,.int .i64 0,.int .i64 0,.int .i64 0,.float .f64 0]) 14 112 Tryz.underlying22 ei ez es eb rfl (by decide) (.slice ua (m) uc) (m) (factsL (pl)) (by simp[Act.eval]) (row_be (by have:=HC.out.row;rw[HPL.out] at this;exact this) hb10) ⟨w9.heap.size,0,none⟩ 1 1 (factL ⟨1,an,aq,0,0,0,0,oc,dp,pa,0,0,0,ex⟩) (by rfl) rfl (lit_cells kF) (factL_one ⟨1,an,aq,0,0,0,0,oc,dp,pa,0,0,0,ex⟩) (by unfold maxLen;omega) (by omega) (by have:=hb10.size;omega) ?_
    intro v3 w11 hown hgrow hat;have HCN:=qq ((HC.out.below hb10).snoc (f:=⟨1,an,aq,0,0,0,0,oc,dp,pa,0,0,0,ex⟩) (Nat.le_refl _) (by rw[HPL.out];exact hown) hgrow hat);obtain⟨ua2,uc2,hu2⟩:=row_slice hown;subst hu2;have hHeld:KeepZ ob w8 w11∧Below w.heap.size w w11:=⟨hS10.1.grown (by rw[hob];exact hgrow),HCN.out.be⟩
    clear hown hat hb10 kF hgrow;refine⟨.inr hHeld,?_⟩;simp only[puts];refine pure_X (d:=some 3) 16 rfl rfl hHeld (by go_simp;(try rfl)) ?_;simp only[puts];refine doneX (by kernel_rfl) ?_ _;clear hHeld hS10 hb9 NC NX hob HXW hzb HC;have qx:=(HXB.out.below HCN.out.be).cell;have hzr:=HCN.out.be.size;have hxw:xb<w11.heap.size:=by omega
    go_wp2_with fail;clear qx;go_loopw [3,45] (fun u cc wr=>∃j:Nat,j≤nr∧cc=.int .i64 (j:Int)∧Hid (FRow w.heap.size cb #[.int .i64 an,.int .i64 aq,.int .i64 oc,.int .i64 dp,.float .f64 ex] u (pl ++([⟨1,an,aq,0,0,0,0,oc,dp,pa,0,0,0,ex⟩]:List SFact) ++enrF ⟨an,aq,oc,dp,ex,pa,de,rs⟩ 0 (rs.take j)) w wr)) (fun _ cc _=>nr - (intOf cc).toNat)
    case atStart=>exact⟨0,by omega,by first | rfl | go_num,qq (by have:=HCN.out;simpa[enrF,seatF] using this)⟩
    case round=>
     obtain⟨j,hj,rfl,HC⟩:=hrel;obtain⟨ua,uc,hu⟩:=row_slice HC.out.row;have hj0:(0:Int)≤(j:Int):=by omega
     obtain⟨ls,hls⟩:∃l:List SFact,l=pl ++([⟨1,an,aq,0,0,0,0,oc,dp,pa,0,0,0,ex⟩]:List SFact) ++enrF ⟨an,aq,oc,dp,ex,pa,de,rs⟩ 0 (rs.take j):=⟨_,rfl⟩
     obtain⟨m2,hm2⟩:∃m,m=ls.length:=⟨_,rfl⟩
     rw[←hls] at HC hu;have hm3:m2≤130:=by
      rw[hm2,hls];have e1:=HPL.out;have e2:=enrF_len ⟨an,aq,oc,dp,ex,pa,de,rs⟩ rs 0;have e2':=enrF_len ⟨an,aq,oc,dp,ex,pa,de,rs⟩ (rs.take j) 0;have e3:=seatF_len ⟨an,aq,oc,dp,ex,pa,de,rs⟩ (rs.take j) 0;have e5:=HNR.out;have e4:(rs.take j).length≤6:=by rw[List.length_take];omega
      simp only[List.length_append,List.length_cons,List.length_nil];omega
     have HM2:=qq hm2;have HLS:=qq hls;rw[←hm2] at hu;subst hu;clear hm2 hls;have hwr2:=HC.out.be.size;by_cases hlt:j<nr
     · have hj1:(j:Int)<(nr:Int):=by omega
       obtain⟨gr,rfl,hgr,_,hrc⟩:=HRR.out (by omega);obtain⟨r,hr⟩:∃r,rs[j]? =some r:=⟨_,List.getElem?_eq_getElem (by have:=HNR.out;omega)⟩
       obtain⟨r0,r1,r2,r3,r4,r5⟩:=(hrc j r hr).below HC.out.be hgr;have hgw2:gr<wr.heap.size:=by omega
       have HT2:=qq (enrF_take (a:=⟨an,aq,oc,dp,ex,pa,de,rs⟩) hr);obtain⟨rn,rp,⟨sp,sd,ss,sh⟩⟩:=r;dsimp only at r0 r1 r2 r3 r4 r5 HT2;have hb1:=(Below.refl wr.heap.size wr).alloc (Nat.le_refl _) (.cells #[rn,rp,sp,sd,ss,sh] 55);have HC1:=qq (HC.out.below hb1);obtain⟨lc,qc,fc⟩:=HC1.out.blk;clear hr hrc hb1
       have hal:=(Below.refl (wr.alloc (.cells #[rn,rp,sp,sd,ss,sh] 55)).heap.size (wr.alloc (.cells #[rn,rp,sp,sd,ss,sh] 55))).alloc (Nat.le_refl _) (.cells #[.int .i64 2,an,aq,.int .i64 ((j:Int)),rn,rp,sp,.int .i64 0,.int .i64 0,.int .i64 0,.int .i64 0,.int .i64 0,.int .i64 0,.float .f64 0] 39);have HCA:=qq (HC1.out.below hal)
       have hrow:((wr.alloc (.cells #[rn,rp,sp,sd,ss,sh] 55)).alloc (.cells #[.int .i64 2,an,aq,.int .i64 ((j:Int)),rn,rp,sp,.int .i64 0,.int .i64 0,.int .i64 0,.int .i64 0,.int .i64 0,.int .i64 0,.float .f64 0] 39)).ownsRow w.heap.size 39 14 (.slice ua m2 uc) m2 (factsL (ls)):=by have:=HCA.out.row;rw[←HM2.out] at this;exact this
       clear hal
       go_wp2_with (at_builtin;refine wpList_append_own_at _ rfl _ _ 22 rfl w.heap.size 39 i0 (.agg #[.int .i64 0,.int .i64 0,.int .i64 0,.int .i64 0,.int .i64 0,.int .i64 0,.int .i64 0,.int .i64 0,.int .i64 0,.int .i64 0,.int .i64 0,.int .i64 0,.int .i64 0,.float .f64 0]) 14 112 Tryz.underlying22 ei ez es eb rfl (by decide) _ _ _ rfl hrow ⟨wr.heap.size+1,0,none⟩ 1 1 (factL ⟨2,an,aq,(j:Int),rn,rp,sp,0,0,0,0,0,0,0⟩) (by rfl) rfl (lit_cells (Blk.fresh _ _ _ _ (by simp))) (factL_one ⟨2,an,aq,(j:Int),rn,rp,sp,0,0,0,0,0,0,0⟩) ?d3_3 ?d4_3 ?d5_3 ?_)
       case d3_3=>unfold maxLen;omega
       case d4_3=>omega
       case d5_3=>exact HCA.out.be.size
       intro v2 w7 hown hgrow _ hat;obtain⟨ua2,uc2,hu2⟩:=row_slice hown;subst hu2;have HC2:=qq (HCA.out.snoc (f:=⟨2,an,aq,(j:Int),rn,rp,sp,0,0,0,0,0,0,0⟩) (Nat.le_refl _) (by rw[←HM2.out];exact hown) hgrow (by rw[World.size_alloc,World.size_alloc];exact hat));clear hown hgrow hat hrow HCA qc lc fc;go_wp2_with fail;go_roundw
       case rel=>exact⟨j+1,by omega,by go_num,qq (by rw[HT2.out,←List.append_assoc,←HLS.out];exact HC2.out)⟩
       case measure=>simp[intOf];omega
     · obtain rfl:nr=j:=by omega
       have hall:rs.take nr=rs:=List.take_of_length_le (by have:=HNR.out;omega);rw[HLS.out,hall] at HC HM2;clear hall hlt HLS;have HCN:=HC;obtain⟨w11,hw11⟩:∃x,x=wr:=⟨_,rfl⟩
       subst hw11;clear HC;have qx:=(HXB.out.below HCN.out.be).cell;have hzr:=HCN.out.be.size;have hxw:xb<w11.heap.size:=by omega
       go_wp2_with fail;clear qx;go_loopw [3,70] (fun u cc wr=>∃j:Nat,j≤nr∧cc=.int .i64 (j:Int)∧Hid (FRow w.heap.size cb #[.int .i64 an,.int .i64 aq,.int .i64 oc,.int .i64 dp,.float .f64 ex] u ((pl ++([⟨1,an,aq,0,0,0,0,oc,dp,pa,0,0,0,ex⟩]:List SFact) ++enrF ⟨an,aq,oc,dp,ex,pa,de,rs⟩ 0 rs) ++seatF ⟨an,aq,oc,dp,ex,pa,de,rs⟩ 0 (rs.take j)) w wr)) (fun _ cc _=>nr - (intOf cc).toNat)
       case atStart=>exact⟨0,by omega,by first | rfl | go_num,qq (by have:=HCN.out;simpa[enrF,seatF] using this)⟩
       case round=>
        obtain⟨j,hj,rfl,HC⟩:=hrel;obtain⟨ua,uc,hu⟩:=row_slice HC.out.row;have hj0:(0:Int)≤(j:Int):=by omega
        obtain⟨ls,hls⟩:∃l:List SFact,l=(pl ++([⟨1,an,aq,0,0,0,0,oc,dp,pa,0,0,0,ex⟩]:List SFact) ++enrF ⟨an,aq,oc,dp,ex,pa,de,rs⟩ 0 rs) ++seatF ⟨an,aq,oc,dp,ex,pa,de,rs⟩ 0 (rs.take j):=⟨_,rfl⟩
        obtain⟨m2,hm2⟩:∃m,m=ls.length:=⟨_,rfl⟩
        rw[←hls] at HC hu;have hm3:m2≤130:=by
         rw[hm2,hls];have e1:=HPL.out;have e2:=enrF_len ⟨an,aq,oc,dp,ex,pa,de,rs⟩ rs 0;have e2':=enrF_len ⟨an,aq,oc,dp,ex,pa,de,rs⟩ (rs.take j) 0;have e3:=seatF_len ⟨an,aq,oc,dp,ex,pa,de,rs⟩ (rs.take j) 0;have e5:=HNR.out;have e4:(rs.take j).length≤6:=by rw[List.length_take];omega
         simp only[List.length_append,List.length_cons,List.length_nil];omega
        have HM2:=qq hm2;have HLS:=qq hls;rw[←hm2] at hu;subst hu;clear hm2 hls;have hwr2:=HC.out.be.size;by_cases hlt:j<nr
        · have hj1:(j:Int)<(nr:Int):=by omega
          obtain⟨gr,rfl,hgr,_,hrc⟩:=HRR.out (by omega);obtain⟨r,hr⟩:∃r,rs[j]? =some r:=⟨_,List.getElem?_eq_getElem (by have:=HNR.out;omega)⟩
          obtain⟨r0,r1,r2,r3,r4,r5⟩:=(hrc j r hr).below HC.out.be hgr;have hgw2:gr<wr.heap.size:=by omega
          have HT2:=qq (seatF_take (a:=⟨an,aq,oc,dp,ex,pa,de,rs⟩) hr);obtain⟨rn,rp,⟨sp,sd,ss,sh⟩⟩:=r;dsimp only at r0 r1 r2 r3 r4 r5 HT2;have hb1:=(Below.refl wr.heap.size wr).alloc (Nat.le_refl _) (.cells #[rn,rp,sp,sd,ss,sh] 55);have HC1:=qq (HC.out.below hb1);obtain⟨lc,qc,fc⟩:=HC1.out.blk;clear hr hrc hb1
          have kR:Blk (wr.alloc (.cells #[rn,rp,sp,sd,ss,sh] 55)) wr.heap.size #[.int .i64 rn,.int .i64 rp,.int .i64 sp,.int .i64 sd,.int .i64 ss,.int .i64 sh]:=Blk.fresh _ _ _ _ rfl;by_cases h1s:ss=1
          · have hs1:(ss !=1)=false:=by simpa using h1s
            rw[if_pos h1s,List.append_nil] at HT2;clear h1s;go_wp2_with fail;go_roundw
            case rel=>exact⟨j+1,by omega,by go_num,qq (by rw[HT2.out,←HLS.out];exact HC1.out)⟩
            case measure=>simp[intOf];omega
          · have hs1:(ss !=1)=true:=by simpa using h1s
            rw[if_neg h1s] at HT2;clear h1s;have hal:=(Below.refl (wr.alloc (.cells #[rn,rp,sp,sd,ss,sh] 55)).heap.size (wr.alloc (.cells #[rn,rp,sp,sd,ss,sh] 55))).alloc (Nat.le_refl _) (.cells #[.int .i64 3,an,aq,.int .i64 ((j:Int)),.int .i64 0,.int .i64 0,.int .i64 0,.int .i64 0,.int .i64 0,.int .i64 0,ss,sh,.int .i64 0,.float .f64 0] 39);have HCA:=qq (HC1.out.below hal)
            have hrow:((wr.alloc (.cells #[rn,rp,sp,sd,ss,sh] 55)).alloc (.cells #[.int .i64 3,an,aq,.int .i64 ((j:Int)),.int .i64 0,.int .i64 0,.int .i64 0,.int .i64 0,.int .i64 0,.int .i64 0,ss,sh,.int .i64 0,.float .f64 0] 39)).ownsRow w.heap.size 39 14 (.slice ua m2 uc) m2 (factsL (ls)):=by have:=HCA.out.row;rw[←HM2.out] at this;exact this
            clear hal
            go_wp2_with (at_builtin;refine wpList_append_own_at _ rfl _ _ 22 rfl w.heap.size 39 i0 (.agg #[.int .i64 0,.int .i64 0,.int .i64 0,.int .i64 0,.int .i64 0,.int .i64 0,.int .i64 0,.int .i64 0,.int .i64 0,.int .i64 0,.int .i64 0,.int .i64 0,.int .i64 0,.float .f64 0]) 14 112 Tryz.underlying22 ei ez es eb rfl (by decide) _ _ _ rfl hrow ⟨wr.heap.size+1,0,none⟩ 1 1 (factL ⟨3,an,aq,(j:Int),0,0,0,0,0,0,ss,sh,0,0⟩) (by rfl) rfl (lit_cells (Blk.fresh _ _ _ _ (by simp))) (factL_one ⟨3,an,aq,(j:Int),0,0,0,0,0,0,ss,sh,0,0⟩) ?d3_5 ?d4_5 ?d5_5 ?_)
            case d3_5=>unfold maxLen;omega
            case d4_5=>omega
            case d5_5=>exact HCA.out.be.size
            intro v2 w7 hown hgrow _ hat;obtain⟨ua2,uc2,hu2⟩:=row_slice hown;subst hu2;have HC2:=qq (HCA.out.snoc (f:=⟨3,an,aq,(j:Int),0,0,0,0,0,0,ss,sh,0,0⟩) (Nat.le_refl _) (by rw[←HM2.out];exact hown) hgrow (by rw[World.size_alloc,World.size_alloc];exact hat));clear hown hgrow hat hrow HCA qc lc fc;go_wp2_with fail;go_roundw
            case rel=>exact⟨j+1,by omega,by go_num,qq (by rw[HT2.out,←List.append_assoc,←HLS.out];exact HC2.out)⟩
            case measure=>simp[intOf];omega
        · obtain rfl:nr=j:=by omega
          have hall:rs.take nr=rs:=List.take_of_length_le (by have:=HNR.out;omega);rw[HLS.out,hall] at HC HM2;clear hall hlt HLS;have hal1:actF ⟨an,aq,oc,dp,ex,pa,de,rs⟩=[⟨1,an,aq,0,0,0,0,oc,dp,pa,0,0,0,ex⟩] ++(enrF ⟨an,aq,oc,dp,ex,pa,de,rs⟩ 0 rs ++(seatF ⟨an,aq,oc,dp,ex,pa,de,rs⟩ 0 rs ++(if de=0 then[] else[⟨4,an,aq,0,0,0,0,0,0,0,0,0,de,0⟩]))):=rfl;have HACTF:=qq hal1;clear hal1
          have qx:=(HXB.out.below HC.out.be).cell;have hxw:xb<wr.heap.size:=by have:=HC.out.be.size;omega
          by_cases hde:de=0
          · have hd1:(de !=0)=false:=by simpa using hde
            rw[if_pos hde,List.append_nil] at HACTF;have HFIN:Hid ((List.take (k+1) S.acts).flatMap actF=(pl ++([⟨1,an,aq,0,0,0,0,oc,dp,pa,0,0,0,ex⟩]:List SFact) ++enrF ⟨an,aq,oc,dp,ex,pa,de,rs⟩ 0 rs) ++seatF ⟨an,aq,oc,dp,ex,pa,de,rs⟩ 0 rs):=qq (by rw[HTK.out,HACTF.out];simp only[List.append_assoc]);clear hde;go_wp2_with fail;go_roundw
            case rel=>exact⟨k+1,by omega,by go_num,qq (by rw[HFIN.out];exact HC.out.row),qq HC.out.be⟩
            case measure=>simp[intOf];omega
          · have hd1:(de !=0)=true:=by simpa using hde
            rw[if_neg hde] at HACTF;have HFIN:Hid ((List.take (k+1) S.acts).flatMap actF=((pl ++([⟨1,an,aq,0,0,0,0,oc,dp,pa,0,0,0,ex⟩]:List SFact) ++enrF ⟨an,aq,oc,dp,ex,pa,de,rs⟩ 0 rs) ++seatF ⟨an,aq,oc,dp,ex,pa,de,rs⟩ 0 rs) ++ [⟨4,an,aq,0,0,0,0,0,0,0,0,0,de,0⟩]):=qq (by rw[HTK.out,HACTF.out];simp only[List.append_assoc]);clear hde;go_wp2_with fail;clear qx;have HPL2:=HPL;clear HPL
            have HPL:Hid (((pl ++([⟨1,an,aq,0,0,0,0,oc,dp,pa,0,0,0,ex⟩]:List SFact) ++enrF ⟨an,aq,oc,dp,ex,pa,de,rs⟩ 0 rs) ++seatF ⟨an,aq,oc,dp,ex,pa,de,rs⟩ 0 rs).length=m2):=qq HM2.out.symm;obtain⟨ob,hob⟩:∃ob,ob=(Value.slice ua (m2) uc).ownBlock:=⟨_,rfl⟩
            have NC:ob≠some cb:=fun e=>HC.out.ne (by rw[←hob];exact e)
            have NX:ob≠some xb:=fun e=>by rw[hob] at e;have:=(HC.out.row.lt _ e).1;omega
            have HXW:=qq (HXB.out.below HC.out.be);have hzb:=HC.out.be.size;refine reg_startZ (fun w'=>KeepZ ob wr w'∧Below w.heap.size w w') (Below wr.heap.size wr) (by kernel_rfl) ⟨.of_below (Below.refl _ _).drew,bel_drew HC.out.be⟩ (Below.refl _ _).drew (fun _=>false) ?_;intro w9 hHeld hb9;refine takeX (d:=some 98) 0 rfl rfl hHeld (fun w' hS'=>by clear hS';go_simp;(try rfl)) ?_;simp only[puts]
            refine takeX (d:=some 99) 1 rfl rfl hHeld (fun w' hS'=>by clear hS';go_simp;(try rfl)) ?_;simp only[puts];refine takeX (d:=some 100) 2 rfl rfl hHeld (fun w' hS'=>by have qA:=(hS'.1.blk HC.out.blk NC).cell;clear hS';go_simp;(try rfl)) ?_;simp only[puts];refine takeX (d:=some 101) 3 rfl rfl hHeld (fun w' hS'=>by clear hS';go_simp;(try rfl)) ?_;simp only[puts]
            refine takeX (d:=some 102) 4 rfl rfl hHeld (fun w' hS'=>by clear hS';go_simp;(try rfl)) ?_;simp only[puts];refine takeX (d:=some 103) 5 rfl rfl hHeld (fun w' hS'=>by clear hS';go_simp;(try rfl)) ?_;simp only[puts];refine takeX (d:=some 104) 6 rfl rfl hHeld (fun w' hS'=>by have qA:=(hS'.1.blk HXW.out NX).cell;clear hS';go_simp;(try rfl)) ?_;simp only[puts]
            refine takeX (d:=some 105) 7 rfl rfl hHeld (fun w' hS'=>by clear hS';go_simp;(try rfl)) ?_;simp only[puts];have hb10:=hb9.alloc hb9.size (.cells #[.int .i64 4,an,aq,.int .i64 0,.int .i64 0,.int .i64 0,.int .i64 0,.int .i64 0,.int .i64 0,.int .i64 0,.int .i64 0,.int .i64 0,de,.float .f64 0] 39)
            refine new_X (d:=some 106) 8 (.slice (some ⟨w9.heap.size,0,none⟩) 1 1) #[.int .i64 4,.int .i64 an,.int .i64 aq,.int .i64 0,.int .i64 0,.int .i64 0,.int .i64 0,.int .i64 0,.int .i64 0,.int .i64 0,.int .i64 0,.int .i64 0,.int .i64 de,.float .f64 0] 39 rfl rfl (by go_simp) ⟨hHeld.1.alloc _,bel_alloc hHeld.2 _⟩ ?_;intro hS10 kF;simp only[puts]
            refine app_X (d:=some 107) 9 rfl rfl rfl (.tmp 98) (.tmp 106) 22 rfl w.heap.size 39 i0 (.agg #[.int .i64 0,.int .i64 0,.int .i64 0,.int .i64 0,.int .i64 0,.int .i64 0,.int .i64 0,.int .i64 0,.int .i64 0,.int .i64 0,.int .i64 0,.int .i64 0,.int .i64 0,.float .f64 0]) 14 112 Tryz.underlying22 ei ez es eb rfl (by decide) (.slice ua (m2) uc) (m2) (factsL ((pl ++([⟨1,an,aq,0,0,0,0,oc,dp,pa,0,0,0,ex⟩]:List SFact) ++enrF ⟨an,aq,oc,dp,ex,pa,de,rs⟩ 0 rs) ++seatF ⟨an,aq,oc,dp,ex,pa,de,rs⟩ 0 rs)) (by simp[Act.eval]) (row_be (by have:=HC.out.row;rw[HPL.out] at this;exact this) hb10) ⟨w9.heap.size,0,none⟩ 1 1 (factL ⟨4,an,aq,0,0,0,0,0,0,0,0,0,de,0⟩) (by rfl) rfl (lit_cells kF) (factL_one ⟨4,an,aq,0,0,0,0,0,0,0,0,0,de,0⟩) (by unfold maxLen;omega) (by omega) (by have:=hb10.size;omega) ?_
            intro v3 w11 hown hgrow hat;have HCN:=qq ((HC.out.below hb10).snoc (f:=⟨4,an,aq,0,0,0,0,0,0,0,0,0,de,0⟩) (Nat.le_refl _) (by rw[HPL.out];exact hown) hgrow hat);obtain⟨ua2,uc2,hu2⟩:=row_slice hown;subst hu2;have hHeld:KeepZ ob wr w11∧Below w.heap.size w w11:=⟨hS10.1.grown (by rw[hob];exact hgrow),HCN.out.be⟩
            clear hown hat hb10 kF hgrow;refine⟨.inr hHeld,?_⟩;simp only[puts];refine pure_X (d:=some 3) 10 rfl rfl hHeld (by go_simp;(try rfl)) ?_;simp only[puts];refine doneX (by kernel_rfl) ?_ _;clear hHeld hS10 hb9 NC NX hob HXW hzb HC;go_wp2_with fail;go_roundw
            case rel=>exact⟨k+1,by omega,by go_num,qq (by rw[HFIN.out];exact HCN.out.row),qq HCN.out.be⟩
            case measure=>simp[intOf];omega
  · obtain rfl:k=n:=by omega
    have hall:S.acts.take k=S.acts:=List.take_of_length_le (by have:=HN.out;omega);rw[hall] at HO HM;clear hall hlt;go_wp2_with fail;go_ret;exact⟨_,_,by rw[←HM.out];rfl,by rw[←HM.out];exact HO.out,HB.out⟩
theorem wpList_append_rows {w : World} {ops : Array Oper} {rest : List Oper} {o : Oper} {a : Act} {Q : Exit → Act → World → Prop} (hgd : o.guard = none) (s x : Operand) (t : TypeId)
    (ho:o.op=.call {callee:=.builtin .append,args:= #[s,x],argTypes:= #[t,t]})
    (base:Nat) (e:TypeId) (i:TypeInfo) (z:Value) (size bytes:Nat) (ht:Tryz.prog.underlying t=some (.slice e)) (hi:Tryz.prog.info? e=some i) (hz:i.zero=some z)
    (hsize:i.size=size) (hby:i.bytes=bytes) (hzs:z.cells.size=size) (hsz:0<size)
    (v:Value) (n:Nat) (xs:List Value) (hs:a.eval s=v) (hown:w.ownsRow base e size v n xs)
    (B2:Nat) (vx:Value) (m:Nat) (ys:List Value) (hx:a.eval x=vx) (hown2:w.ownsRow B2 e size vx m ys) (h1:∀u∈ys,u.oneCell'=true)
    (h63:n+m≤maxLen) (hbytes:(n+m)*bytes≤140737488355328) (hbase:base≤w.heap.size)
    (h:∀v' w',w'.ownsRow base e size v' (n+m) (xs ++ys)→w.grownBy w' v.ownBlock→(v'.ownBlock=v.ownBlock∨v'.ownBlock=some w.heap.size)→wpList Tryz.prog ops Q rest (a.put o.dst v') w'):wpList Tryz.prog ops Q (o::rest) a w:=by
 rcases hown2.2 with⟨hv,hm⟩ | ⟨g,cap,cur,hv,hg1,hg2,hle,hcap,hcs,htk⟩
 · subst hv hm;have hy:ys=[]:=List.length_eq_zero_iff.1 (by have:=hown2.1;omega);subst hy;refine wpList_append_own_none hgd s x t ho base e i size ht hi v n xs hs hown hx ?_;exact h v w (by rw[List.append_nil];exact hown) ⟨rfl,rfl,rfl,Nat.le_refl _,fun _ _ _=>rfl⟩ (.inl rfl)
 · subst hv;refine wpList_append_own_at w hgd s x t ho base e i z size bytes ht hi hz hsize hby hzs hsz v n xs hs hown ⟨g,0,none⟩ m cap ys hx hown2.1 (fun j u hu=> ?_) h1 h63 hbytes hbase (fun v' w' a1 a2 _ a4=>h v' w' a1 a2 a4);have hadd:((⟨g,0,none⟩:Addr).add j)=⟨g,j,none⟩:=by unfold Addr.add;split<;>simp_all
   rw[hadd];simp only[World.cell?,hg2];rw[←htk] at hu;have hj:=(List.getElem?_eq_some_iff.1 hu).1;rw[List.getElem?_take] at hu;split at hu
   · simpa using hu
   · cases hu
def FactsEnds (S:Sto) (w:World) (e:Ending) (w':World):Prop:=∃a c,e=.returned (.slice a (sfacts S).length c)∧w'.ownsRow w.heap.size 39 14 (.slice a (sfacts S).length c) (sfacts S).length (factsL (sfacts S))∧Below w.heap.size w w'
theorem factsL_one (fs:List SFact):∀u∈factsL fs,u.oneCell'=true:=flat_one factL factL_one fs
theorem factsL_append (l m:List SFact):factsL (l ++m)=factsL l ++factsL m:=by unfold factsL;rw[List.flatMap_append]
theorem facts_of (L:SLoc) (S:Sto) (w:World) (h:StoreAt L S w) (hG:StoGood S):Calls Tryz.prog 31 #[.pointer (some ⟨L.sb,0,none⟩)] w (FactsEnds S w):=by
 obtain⟨i0,ei,ez,es,eb⟩:=info_parts infoFactC;have HPF:=qq (partFacts_of L S w h hG);have HAF:=qq (fun W (hW:Below w.heap.size w W)=>actFacts_of L S W (h.below hW) hG);have HFI:=qq (fun W (hW:Below w.heap.size w W)=>find_of L S S.node (S.next - 1) W (h.below hW) hG);have HSB:=qq (fun W (hW:Below w.heap.size w W)=>(h.below hW).blk);have hnx:=hG.next;have hnd:=hG.node
 have hn1:(partsF 0 S.parts).length≤24:=by have h1:=partsF_len S.parts 0;have:=hG.parts;omega
 have hn2:(S.acts.flatMap actF).length≤112:=by have h1:=flatF_len S.acts (fun a ha=>(hG.act a ha).len);have:=hG.acts;omega
 have hsb:=h.blk.lt;have HLST:Hid (lastF S=if 0<S.next∧sfind S S.node (S.next - 1)=none then[⟨1,S.node,S.next - 1,0,0,0,0,1,0,0,0,0,0,0⟩,⟨5,S.node,S.next - 1,0,0,0,0,0,0,0,0,0,0,0⟩] else[]):=qq rfl;have HSF:Hid (sfacts S=partsF 0 S.parts ++(S.acts.flatMap actF ++lastF S)):=qq rfl
 have HLB:=qq (fun(i:Nat) (hi:sfind S S.node (S.next - 1)=some i)=>show ∃b,aptr L (some i)=.pointer (some ⟨b,0,none⟩) from by
   unfold sfind at hi;have hl:=(List.findIdx?_eq_some_iff_getElem.1 hi).1;have hl2:=h.len;unfold aptr;rw[Option.bind_some,List.getElem?_eq_getElem (by omega)];exact⟨_,rfl⟩)
 obtain⟨pf,hpf⟩:∃l,l=partsF 0 S.parts:=⟨_,rfl⟩
 obtain⟨af,haf⟩:∃l,l=S.acts.flatMap actF:=⟨_,rfl⟩
 obtain⟨n1,hn1e⟩:∃n,n=(partsF 0 S.parts).length:=⟨_,rfl⟩
 obtain⟨n2,hn2e⟩:∃n,n=(S.acts.flatMap actF).length:=⟨_,rfl⟩
 have HN1:Hid (n1=pf.length):=qq (by rw[hn1e,hpf]);have HN2:Hid (n2=af.length):=qq (by rw[hn2e,haf]);rw[←hn1e] at HPF hn1;rw[←hn2e] at HAF hn2;rw[←hpf] at HPF HSF;rw[←haf] at HAF HSF;clear h hG hpf haf hn1e hn2e;go_enter Tryz.func31,Tryz.ntmps31;go_wp2_with fail;refine HPF.out.mono ?_;rintro e w1 ⟨pa,pc,rfl,hown1,hb1⟩;have HO1:=qq hown1;have HB1:=qq hb1;clear hown1 hb1;go_wp2_with fail
 refine(HAF.out _ HB1.out).mono ?_;rintro e w2 ⟨aa,ac,rfl,hown2,hb2⟩;have HO2:=qq (row_mono hown2 HB1.out.size);have HR1:=qq (row_be HO1.out hb2);have HB2:=qq (below_then HB1.out hb2);clear hown2 hb2
 go_wp2_with (at_builtin;refine wpList_append_rows rfl _ _ 22 rfl w.heap.size 39 i0 (.agg #[.int .i64 0,.int .i64 0,.int .i64 0,.int .i64 0,.int .i64 0,.int .i64 0,.int .i64 0,.int .i64 0,.int .i64 0,.int .i64 0,.int .i64 0,.int .i64 0,.int .i64 0,.float .f64 0]) 14 112 Tryz.underlying22 ei ez es eb rfl (by decide) _ _ _ rfl HR1.out w.heap.size _ _ _ rfl HO2.out (factsL_one af) ?c3 ?c4 ?c5 ?_)
 case c3=>unfold maxLen;omega
 case c4=>omega
 case c5=>exact HB2.out.size
 intro v3 w3 hown hgrow hat;obtain⟨ua,uc,hu⟩:=row_slice hown;subst hu;have HO:=qq (show w3.ownsRow w.heap.size 39 14 (.slice ua (n1+n2) uc) (n1+n2) (factsL (pf ++af)) from by rw[factsL_append];exact hown);have HB:=qq (HB2.out.grown hgrow HB2.out.size (fun j hj=>(HR1.out.lt j hj).1));clear hown hgrow hat;obtain⟨ls,qs,fs⟩:=HSB.out _ HB.out;have hw3:=HB.out.size;go_wp2_with fail;go_region
 have hb4:Below w3.heap.size w3 (w3.alloc (.cells #[S.node,.int .i64 (S.next - 1)] 36)).drew:=bel_drew ((Below.refl _ _).alloc (Nat.le_refl _) _);have HO4:=qq (row_be HO.out hb4);have HB4:=qq (below_then HB.out hb4);have KA:=qq (show Blk (w3.alloc (.cells #[S.node,.int .i64 (S.next - 1)] 36)).drew w3.heap.size #[.int .i64 S.node,.int .i64 (S.next - 1)] from(Blk.fresh w3 _ _ _ rfl).drew)
 have hz4:(w3.alloc (.cells #[S.node,.int .i64 (S.next - 1)] 36)).drew.heap.size=w3.heap.size+1:=by simp
 clear ls qs fs hb4;obtain⟨w4,hw4⟩:∃x,x=(w3.alloc (.cells #[S.node,.int .i64 (S.next - 1)] 36)).drew:=⟨_,rfl⟩
 rw[←hw4] at HO4 HB4 KA hz4⊢;obtain⟨ab,hab⟩:∃x,x=w3.heap.size:=⟨_,rfl⟩
 rw[←hab] at KA hz4 hw3⊢;clear hw4 HO HB;obtain⟨ls,qs,fs⟩:=HSB.out _ HB4.out;obtain⟨lk,qk,fk⟩:=KA.out;clear hab;by_cases h0:0<S.next
 · go_wp2_with fail;refine(HFI.out _ HB4.out).mono ?_;rintro e w5 ⟨rfl,hb5⟩;have HO5:=qq (row_be HO4.out hb5);have HB5:=qq (below_then HB4.out hb5);have KA5:=qq (KA.out.below hb5);clear hb5 ls qs fs lk qk fk;obtain⟨lk,qk,fk⟩:=KA5.out
   cases hq:sfind S S.node (S.next - 1) with
   | some i=>
    have HFIN:Hid (sfacts S=pf ++af):=qq (by rw[HSF.out,HLST.out,if_neg (fun h=>by rw[hq] at h;cases h.2),List.append_nil]);obtain⟨b,hb⟩:=HLB.out i hq;rw[hb];clear hq hb;go_wp2_with fail;go_ret;exact⟨_,_,by rw[HFIN.out,List.length_append,←HN1.out,←HN2.out];rfl,by rw[HFIN.out,List.length_append,←HN1.out,←HN2.out];exact HO5.out,HB5.out⟩
   | none=>
    have HFIN:Hid (sfacts S=(pf ++af) ++ [⟨1,S.node,S.next - 1,0,0,0,0,1,0,0,0,0,0,0⟩,⟨5,S.node,S.next - 1,0,0,0,0,0,0,0,0,0,0,0⟩]):=qq (by rw[HSF.out,HLST.out,if_pos ⟨h0,hq⟩,List.append_assoc]);rw[show aptr L none=.pointer none from rfl];clear hq
    have hal:=(Below.refl w5.heap.size w5).alloc (Nat.le_refl _) (.cells #[.int .i64 1,S.node,.int .i64 (S.next - 1),.int .i64 0,.int .i64 0,.int .i64 0,.int .i64 0,.int .i64 1,.int .i64 0,.int .i64 0,.int .i64 0,.int .i64 0,.int .i64 0,.float .f64 0,.int .i64 5,S.node,.int .i64 (S.next - 1),.int .i64 0,.int .i64 0,.int .i64 0,.int .i64 0,.int .i64 0,.int .i64 0,.int .i64 0,.int .i64 0,.int .i64 0,.int .i64 0,.float .f64 0] 39)
    have hrow:=row_be HO5.out hal;have HBA:=qq (below_then HB5.out hal);clear hal
    go_wp2_with (at_builtin;refine wpList_append_own_at _ rfl _ _ 22 rfl w.heap.size 39 i0 (.agg #[.int .i64 0,.int .i64 0,.int .i64 0,.int .i64 0,.int .i64 0,.int .i64 0,.int .i64 0,.int .i64 0,.int .i64 0,.int .i64 0,.int .i64 0,.int .i64 0,.int .i64 0,.float .f64 0]) 14 112 Tryz.underlying22 ei ez es eb rfl (by decide) _ _ _ rfl hrow ⟨w5.heap.size,0,none⟩ 2 2 (factsL [⟨1,S.node,S.next - 1,0,0,0,0,1,0,0,0,0,0,0⟩,⟨5,S.node,S.next - 1,0,0,0,0,0,0,0,0,0,0,0⟩]) (by rfl) rfl (lit_cells (Blk.fresh _ _ _ _ rfl)) (factsL_one [⟨1,S.node,S.next - 1,0,0,0,0,1,0,0,0,0,0,0⟩,⟨5,S.node,S.next - 1,0,0,0,0,0,0,0,0,0,0,0⟩]) ?d3 ?d4 ?d5 ?_)
    case d3=>unfold maxLen;omega
    case d4=>omega
    case d5=>exact HBA.out.size
    intro v6 w6 hown hgrow _ _;obtain⟨ua2,uc2,hu2⟩:=row_slice hown;subst hu2;have HO6:=qq (show w6.ownsRow w.heap.size 39 14 (.slice ua2 (n1+n2+2) uc2) (n1+n2+2) (factsL ((pf ++af) ++ [⟨1,S.node,S.next - 1,0,0,0,0,1,0,0,0,0,0,0⟩,⟨5,S.node,S.next - 1,0,0,0,0,0,0,0,0,0,0,0⟩])) from by rw[factsL_append];exact hown);have HB6:=qq (HBA.out.grown hgrow HBA.out.size (fun j hj=>(HO5.out.lt j hj).1))
    clear hown hgrow hrow lk qk fk;go_wp2_with fail;go_ret;have hlen:(sfacts S).length=n1+n2+2:=by rw[HFIN.out,List.length_append,List.length_append,←HN1.out,←HN2.out];rfl
    exact⟨_,_,by rw[hlen];rfl,by rw[hlen,HFIN.out];exact HO6.out,HB6.out⟩
 · have HFIN:Hid (sfacts S=pf ++af):=qq (by rw[HSF.out,HLST.out,if_neg (fun h=>h0 h.1),List.append_nil]);go_wp2_with fail;go_ret;exact⟨_,_,by rw[HFIN.out,List.length_append,←HN1.out,←HN2.out];rfl,by rw[HFIN.out,List.length_append,←HN1.out,←HN2.out];exact HO4.out,HB4.out⟩
theorem call_Z {P : Program} {ops : Array Oper} {Q : Exit → Act → World → Prop} {md : Region.Mode} {S : World → Prop} {ex : Nat → Bool} {fuel : Nat} {listed : Array Bool} {a : Act} {w : World} {oi : Oper} {d : Option Tmp} (i : Nat) (f : Nat) (argsO : Array Operand) (ts : Array TypeId) (args : List Value) (hi : ops[i]? = some oi) (hd : oi.dst = d)
    (hop:oi.op=Op.call {callee:=Callee.value (Operand.func f),args:=argsO,argTypes:=ts}) (he:Enters P f) (hw:Region.wanted oi (yielded ops a.tmps)=true) (hargs:argsO.toList.map a.eval=args)
    (h:Calls P f args.toArray w (fun e w'=>∃v,e=.returned v∧(ex i=true∨S w')∧wpAnyX P md ops Q ex S fuel (listed.setIfInBounds i true) (a.put d v) w'))
    (hr:Region.ready md ops listed=[i]:=by kernel_rfl):wpAnyX P md ops Q ex S (fuel+1) listed a w:=
 one_X i hr (wpOp_call i f argsO ts args hi hd hop he hw hargs h)
theorem sregNe (rn rp sp sd ss sh:Int) (w:World):(binOp .neq 55 (.agg #[rn,rp,sp,sd,ss,sh]) (.agg #[rn,rp,sp,sd,ss,sh])).run Tryz.prog w=.ok (.bool false) w:=by
 go_simp
theorem eqReg_of (a1 a2 : Option Addr) (n c1 c2 : Nat) (rs : List SReg) (B1 B2 : Nat) (T1 T2 : TypeId) (w : World) (hn : n = rs.length) (h1 : w.ownsRow B1 T1 6 (.slice a1 n c1) n (regsL rs)) (h2 : w.ownsRow B2 T2 6 (.slice a2 n c2) n (regsL rs)) (hl : n ≤ 1000) :
    Calls Tryz.prog 115 #[.slice a1 n c1,.slice a2 n c2] w (Makes (.bool true) w):=by
 have G:∀(B:Nat) (T:TypeId) (v:Option Addr) (vc:Nat),w.ownsRow B T 6 (.slice v n vc) n (regsL rs)→Hid (∀k,k<n→∃r,rs[k]? =some r∧∃b,v=some ⟨b,0,none⟩∧b<w.heap.size∧RegC w b (k*6) r):=fun B T v vc h=>qq (fun k hk=>by
   obtain⟨a',cap',hv,_,hr⟩:=reg_row h;obtain⟨g,ha,hg,_,hc⟩:=hr (by omega);simp only[Value.slice.injEq,true_and] at hv;exact⟨rs[k],List.getElem?_eq_getElem (by omega),g,by rw[hv.1,ha],hg,hc k _ (List.getElem?_eq_getElem (by omega))⟩)
 have H1:=G _ _ _ _ h1;have H2:=G _ _ _ _ h2;clear G h1 h2 hn;go_enter Tryz.func115,Tryz.ntmps115;go_wp2_with fail;go_loopw [13] (fun i wr=>∃k:Nat,k≤n∧i=.int .i64 (k:Nat)∧Below w.heap.size w wr) (fun i _=>n - (intOf i).toNat)
 case atStart=>exact⟨0,by omega,by first | rfl | go_num,Below.refl _ _⟩
 case round=>
  obtain⟨k,hk,rfl,hB⟩:=hrel;by_cases hlt:k<n
  · obtain⟨f,hf,b1,rfl,hl1',hc1⟩:=H1.out k hlt;obtain⟨f',hf',b2,rfl,hl2',hc2⟩:=H2.out k hlt;obtain rfl:f=f':=by rw[hf] at hf';injection hf'
    have c1:=hc1.below hB hl1';have c2:=hc2.below hB hl2';have hki:(k:Int)<(n:Int):=by omega
    have hk0:(0:Int)≤(k:Int):=by omega
    have hw1:b1<wr.heap.size:=Nat.lt_of_lt_of_le hl1' hB.size;have hw2:b2<wr.heap.size:=Nat.lt_of_lt_of_le hl2' hB.size;clear hf hf' hc1 hc2 hlt;obtain⟨rn,rp,⟨sp,sd,ss,sh⟩⟩:=f;obtain⟨p0,p1,p2,p3,p4,p5⟩:=c1;obtain⟨r0,r1,r2,r3,r4,r5⟩:=c2;dsimp only at p0 p1 p2 p3 p4 p5 r0 r1 r2 r3 r4 r5;have hne:=sregNe rn rp sp sd ss sh;go_wp2_with fail;go_quiet (fail)
    all_goals go_wp2_with fail
    all_goals (go_roundw<;>first | exact⟨k+1,by omega,by go_num,below_then hB ⟨rfl,rfl,rfl,Nat.le_refl _,fun _ _=>rfl⟩⟩ | (simp[intOf];omega))
  · obtain rfl:k=n:=by omega
    go_wp2_with fail;go_ret;exact⟨rfl,hB⟩
theorem spartNe (an aq rg sp sd ss sh:Int) (w:World):(binOp .neq 61 (.agg #[an,aq,rg,sp,sd,ss,sh]) (.agg #[an,aq,rg,sp,sd,ss,sh])).run Tryz.prog w=.ok (.bool false) w:=by
 go_simp
theorem eqPart_of (a1 a2 : Option Addr) (n c1 c2 : Nat) (rs : List SPart) (B1 B2 : Nat) (T1 T2 : TypeId) (w : World) (hn : n = rs.length) (h1 : w.ownsRow B1 T1 7 (.slice a1 n c1) n (partsL rs)) (h2 : w.ownsRow B2 T2 7 (.slice a2 n c2) n (partsL rs)) (hl : n ≤ 1000) :
    Calls Tryz.prog 116 #[.slice a1 n c1,.slice a2 n c2] w (Makes (.bool true) w):=by
 have G:∀(B:Nat) (T:TypeId) (v:Option Addr) (vc:Nat),w.ownsRow B T 7 (.slice v n vc) n (partsL rs)→Hid (∀k,k<n→∃r,rs[k]? =some r∧∃b,v=some ⟨b,0,none⟩∧b<w.heap.size∧PartC w b (k*7) r):=fun B T v vc h=>qq (fun k hk=>by
   obtain⟨a',cap',hv,_,hr⟩:=part_row h;obtain⟨g,ha,hg,_,hc⟩:=hr (by omega);simp only[Value.slice.injEq,true_and] at hv;exact⟨rs[k],List.getElem?_eq_getElem (by omega),g,by rw[hv.1,ha],hg,hc k _ (List.getElem?_eq_getElem (by omega))⟩)
 have H1:=G _ _ _ _ h1;have H2:=G _ _ _ _ h2;clear G h1 h2 hn;go_enter Tryz.func116,Tryz.ntmps116;go_wp2_with fail;go_loopw [13] (fun i wr=>∃k:Nat,k≤n∧i=.int .i64 (k:Nat)∧Below w.heap.size w wr) (fun i _=>n - (intOf i).toNat)
 case atStart=>exact⟨0,by omega,by first | rfl | go_num,Below.refl _ _⟩
 case round=>
  obtain⟨k,hk,rfl,hB⟩:=hrel;by_cases hlt:k<n
  · obtain⟨f,hf,b1,rfl,hl1',hc1⟩:=H1.out k hlt;obtain⟨f',hf',b2,rfl,hl2',hc2⟩:=H2.out k hlt;obtain rfl:f=f':=by rw[hf] at hf';injection hf'
    have c1:=hc1.below hB hl1';have c2:=hc2.below hB hl2';have hki:(k:Int)<(n:Int):=by omega
    have hk0:(0:Int)≤(k:Int):=by omega
    have hw1:b1<wr.heap.size:=Nat.lt_of_lt_of_le hl1' hB.size;have hw2:b2<wr.heap.size:=Nat.lt_of_lt_of_le hl2' hB.size;clear hf hf' hc1 hc2 hlt;obtain⟨an,aq,rg,⟨sp,sd,ss,sh⟩⟩:=f;obtain⟨p0,p1,p2,p3,p4,p5,p6⟩:=c1;obtain⟨r0,r1,r2,r3,r4,r5,r6⟩:=c2;dsimp only at p0 p1 p2 p3 p4 p5 p6 r0 r1 r2 r3 r4 r5 r6;have hne:=spartNe an aq rg sp sd ss sh;go_wp2_with fail;go_quiet (fail)
    all_goals go_wp2_with fail
    all_goals (go_roundw<;>first | exact⟨k+1,by omega,by go_num,below_then hB ⟨rfl,rfl,rfl,Nat.le_refl _,fun _ _=>rfl⟩⟩ | (simp[intOf];omega))
  · obtain rfl:k=n:=by omega
    go_wp2_with fail;go_ret;exact⟨rfl,hB⟩
theorem scopeSame_of (cn cq co cd:Int) (cx:Nat) (w:World) (hx:F64 cx):Calls Tryz.prog 114 #[.agg #[cn,cq,co,cd,.float .f64 cx],.agg #[cn,cq,co,cd,.float .f64 cx]] w (Makes (.bool true) w):=by
 have HB1:=qq (fun W=>bits_of cx hx W);obtain⟨p,hp⟩:∃p:Int,p=(fplain cx:Nat):=⟨_,rfl⟩
 rw[←hp] at HB1;clear hx hp;go_enter Tryz.func114,Tryz.ntmps114;go_wp2_with fail
 refine reg_startZ (fun w'=>Blk w' (w.heap.size) #[cn,cq,co,cd,.float .f64 cx]∧Blk w' (w.heap.size+1) #[cn,cq,co,cd,.float .f64 cx]∧Below w.heap.size w w') (fun _=>True) (by kernel_rfl) ⟨((Blk.fresh _ _ _ (w.heap.size) (by simp)).alloc _).drew,(Blk.fresh _ _ _ (w.heap.size+1) (by simp)).drew,(bel_drew (bel_alloc (bel_alloc (Below.refl w.heap.size w) _) _))⟩ True.intro (fun _=>false) ?_
 rintro w1 hHeld -;refine takeX (d:=some 5) 0 rfl rfl hHeld (fun w' hS'=>by clear hS';go_simp;(try rfl)) ?_;simp only[puts];refine takeX (d:=some 6) 1 rfl rfl hHeld (fun w' hS'=>by have qA:=hS'.1.cell;clear hS';go_simp;(try rfl)) ?_;simp only[puts];refine takeX (d:=some 7) 2 rfl rfl hHeld (fun w' hS'=>by clear hS';go_simp;(try rfl)) ?_;simp only[puts]
 refine takeX (d:=some 8) 3 rfl rfl hHeld (fun w' hS'=>by have qA:=hS'.2.1.cell;clear hS';go_simp;(try rfl)) ?_;simp only[puts];refine takeX (d:=some 9) 4 rfl rfl hHeld (fun w' hS'=>by clear hS';go_simp;(try rfl)) ?_;simp only[puts];refine takeX (d:=some 10) 5 rfl rfl hHeld (fun w' hS'=>by clear hS';go_simp;(try rfl)) ?_;simp only[puts]
 refine takeX (d:=some 11) 6 rfl rfl hHeld (fun w' hS'=>by clear hS';go_simp;(try rfl)) ?_;simp only[puts];refine takeX (d:=some 12) 7 rfl rfl hHeld (fun w' hS'=>by have qA:=hS'.1.cell;clear hS';go_simp;(try rfl)) ?_;simp only[puts];refine takeX (d:=some 13) 8 rfl rfl hHeld (fun w' hS'=>by clear hS';go_simp;(try rfl)) ?_;simp only[puts]
 refine takeX (d:=some 14) 9 rfl rfl hHeld (fun w' hS'=>by have qA:=hS'.2.1.cell;clear hS';go_simp;(try rfl)) ?_;simp only[puts];refine takeX (d:=some 15) 10 rfl rfl hHeld (fun w' hS'=>by clear hS';go_simp;(try rfl)) ?_;simp only[puts];refine takeX (d:=some 16) 11 rfl rfl hHeld (fun w' hS'=>by clear hS';go_simp;(try rfl)) ?_;simp only[puts]
 refine takeX (d:=some 17) 12 rfl rfl hHeld (fun w' hS'=>by clear hS';go_simp;(try rfl)) ?_;simp only[puts];refine takeX (d:=some 18) 13 rfl rfl hHeld (fun w' hS'=>by clear hS';go_simp;(try rfl)) ?_;simp only[puts];refine takeX (d:=some 19) 14 rfl rfl hHeld (fun w' hS'=>by have qA:=hS'.1.cell;clear hS';go_simp;(try rfl)) ?_;simp only[puts]
 refine takeX (d:=some 20) 15 rfl rfl hHeld (fun w' hS'=>by clear hS';go_simp;(try rfl)) ?_;simp only[puts];refine takeX (d:=some 21) 16 rfl rfl hHeld (fun w' hS'=>by have qA:=hS'.2.1.cell;clear hS';go_simp;(try rfl)) ?_;simp only[puts];refine takeX (d:=some 22) 17 rfl rfl hHeld (fun w' hS'=>by clear hS';go_simp;(try rfl)) ?_;simp only[puts]
 refine takeX (d:=some 23) 18 rfl rfl hHeld (fun w' hS'=>by clear hS';go_simp;(try rfl)) ?_;simp only[puts];refine takeX (d:=some 24) 19 rfl rfl hHeld (fun w' hS'=>by clear hS';go_simp;(try rfl)) ?_;simp only[puts];refine takeX (d:=some 25) 20 rfl rfl hHeld (fun w' hS'=>by clear hS';go_simp;(try rfl)) ?_;simp only[puts]
 refine takeX (d:=some 26) 21 rfl rfl hHeld (fun w' hS'=>by have qA:=hS'.1.cell;clear hS';go_simp;(try rfl)) ?_;simp only[puts];refine takeX (d:=some 28) 23 rfl rfl hHeld (fun w' hS'=>by clear hS';go_simp;(try rfl)) ?_;simp only[puts];refine takeX (d:=some 29) 24 rfl rfl hHeld (fun w' hS'=>by have qA:=hS'.2.1.cell;clear hS';go_simp;(try rfl)) ?_;simp only[puts]
 refine call_Z (d:=some 27) 22 217 _ _ [flV cx] rfl rfl rfl (enters_of Tryz.func217 (by kernel_rfl) rfl) (by rfl) (by rfl) ?_;refine(HB1.out _).mono ?_;rintro e w22 ⟨rfl,rfl⟩;refine⟨_,rfl,.inr hHeld,?_⟩;simp only[puts];refine call_Z (d:=some 30) 25 217 _ _ [flV cx] rfl rfl rfl (enters_of Tryz.func217 (by kernel_rfl) rfl) (by rfl) (by rfl) ?_;refine(HB1.out _).mono ?_;rintro e w25 ⟨rfl,rfl⟩
 refine⟨_,rfl,.inr hHeld,?_⟩;simp only[puts];refine takeX (d:=some 31) 26 rfl rfl hHeld (fun w' hS'=>by clear hS';go_simp;(try rfl)) ?_;simp only[puts];refine takeX (d:=some 32) 27 rfl rfl hHeld (fun w' hS'=>by clear hS';go_simp;(try rfl)) ?_;simp only[puts];refine takeX (d:=some 4) 28 rfl rfl hHeld (fun w' hS'=>by clear hS';go_simp;(try rfl)) ?_;simp only[puts];refine doneX (by kernel_rfl) ?_ _
 have HBE:=qq hHeld.2.2;clear hHeld;go_wp2_with fail;go_ret;exact⟨rfl,HBE.out⟩
end Go.Proofs.YtlkajejbfojkeaaGreatDoor
