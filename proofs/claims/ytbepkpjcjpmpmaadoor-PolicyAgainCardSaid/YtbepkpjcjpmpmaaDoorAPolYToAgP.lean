/- PolY, PolZ, Al29, LwPW, AgP -/
import Derived.Test.YtbepkpjcjpmpmaaDoorAPolW
import Derived.Test.YtbepkpjcjpmpmaaDoorAPolLToDnF
import Derived.Test.YtbepkpjcjpmpmaaDoorAPcC
set_option linter.unusedSimpArgs false
set_option linter.unusedVariables false
set_option maxRecDepth 100000
set_option maxHeartbeats 16000000
namespace Go.Proofs.YtbepkpjcjpmpmaaDoor
open Go.RowKit Go.Shelf
theorem expr_all (g:Nat):ExprAt g:=by
 have h:∀n g,g≤n→ExprAt g:=by
  intro n
  induction n with
  | zero=>
   intro g hg s d rb ea w0 w h1;omega
  | succ n ih=>
   intro g hg;rcases Nat.lt_or_ge g (n+1) with h | h
   · exact ih g (by omega)
   · obtain rfl:g=n+1:=by omega
     exact expr_step n ih
 exact h g g (Nat.le_refl _)
def pPar (s:PStr):Option PE:=
 match rdGo (2*s.length+1) 0 s none with
 | some (.cons o n b k .nil,[])=>if pRight ⟨o,n,b,k⟩ then some ⟨o,n,b,k⟩ else none
 | _=>none
def pParse (s:PStr):PE×Int:=if 20000<s.length then(⟨0,[],false,.nil⟩,3) else match pPar s with | some e=>(e,0) | none=>(⟨0,[],false,.nil⟩,4)
theorem rd_small {g d:Nat} {s t:PStr} {o:Int} {n:PStr} {b:Bool} {k:PF} (hs:s.length≤20000) (h:rdGo g d s none=some (.cons o n b k .nil,t)):n.length≤100000∧k.len≤100000∧k.small:=by
 obtain⟨h1,h2,_,_⟩:=rd_ok 20000 g d s none _ _ hs h;have h3:k.sz+0+1+t.length≤s.length+1:=h1;have:=PF.len_sz k;exact⟨Nat.le_trans h2.1 (by omega),by omega,PF.small_of k 20000 20001 (by omega) (by omega) h2.2.1 (by omega)⟩
theorem pPar_some {Q : Option PE} {o : Int} {n : PStr} {b : Bool} {k : PF} {t : PStr} (h : Q = match (some (.cons o n b k .nil, t) : Option (PF × PStr)) with
    | some (.cons o n b k .nil,[])=>if pRight ⟨o,n,b,k⟩ then some ⟨o,n,b,k⟩ else none
    | _=>none):Q=if t.isEmpty then(if pRight ⟨o,n,b,k⟩ then some ⟨o,n,b,k⟩ else none) else none:=by
 rw[h]
 cases t<;>rfl
def Par1Ends (q:Option PE) (ea:Int→Addr) (w:World) (e:Ending) (w':World):Prop:=
 (∀x,q=some x→∃a c,e=.returned (.agg (exA x a c))∧KC w.heap.size w'.heap.size w' x.kids a∧Below w.heap.size w w')∧
 (q=none→e=.panicked [{v:=errV (ea 4),recovered:=false}]∧Below w.heap.size w w')
theorem parse1_of (s : PStr) (ea : Int → Addr) (p : Nat) (w : World) (hs : s.length ≤ 20000) (hE : Errs ea w) (hp : Blk w p #[.string ⟨s.toArray⟩]) :
    Calls Tryd.prog 18 #[.pointer (some ⟨p,0,none⟩)] w (Par1Ends (pPar s) ea w):=by
 have HYES:Hid (∀x a c w',pPar s=some x→KC w.heap.size w'.heap.size w' x.kids a→Below w.heap.size w w'→Par1Ends (pPar s) ea w (.returned (.agg (exA x a c))) w'):=qq (fun x a c w' h1 h2 h3=>⟨fun y hy=>(by rw[h1] at hy;injection hy with hy;subst hy;exact⟨a,c,rfl,h2,h3⟩),fun hn=>(by rw[h1] at hn;cases hn)⟩)
 have HNO:Hid (∀w',pPar s=none→Below w.heap.size w w'→Par1Ends (pPar s) ea w (.panicked [{v:=errV (ea 4),recovered:=false}]) w'):=qq (fun w' h1 h2=>⟨fun y hy=>(by rw[h1] at hy;cases hy),fun _=>⟨rfl,h2⟩⟩);have HQ:Hid (pPar s=match rdGo (2*s.length+1) 0 s none with
   | some (.cons o n b k .nil,[])=>if pRight ⟨o,n,b,k⟩ then some ⟨o,n,b,k⟩ else none
   | _=>none):=qq rfl
 generalize Par1Ends (pPar s) ea w=R at HYES HNO⊢;generalize pPar s=Q at*;have HEE:=qq hE;have HS:=qq hs;have HGE:Hid (∀W,Below w.heap.size w W→W.cell? ⟨0,0,none⟩=some (errV (ea 4))):=qq (fun W hW=>(hE.below hW).e4);have c0:w.cell? ⟨p,0,none⟩=some (.string ⟨s.toArray⟩):=hp.cell 0;have hlt:=hp.lt
 have HX:=qq (fun(W:World) (hW:Below w.heap.size w W) (h:RdB W (w.heap.size+1) s 0)=>expr_all (2*s.length+1) s 0 (w.heap.size+1) ea w W (by omega) hs (by omega) h hE (by omega) hW);have HRD:=qq (fun o n b k t h=>rd_small (g:=2*s.length+1) (d:=0) (s:=s) (t:=t) (o:=o) (n:=n) (b:=b) (k:=k) hs h);generalize hrd:rdGo (2*s.length+1) 0 s none=q at*
 have HOK:Hid (∀f t,q=some (f,t)→f.isOne):=qq (fun f t h=>(rd_ok 20000 _ 0 s none f t hs (hrd.trans h)).2.2.1);clear hs hE hp hrd;go_enter Tryd.func18,Tryd.ntmps18;go_wp2_with fail;refine(HX.out _ (by go_grown) (Blk.fresh _ _ _ _ (by simp))).mono ?_;rintro e w1 ⟨hyes,hno⟩
 cases q with
 | none=>
  obtain⟨rfl,_,hg⟩:=hno rfl;have hb:Below w.heap.size w w1:=gr_below (w:=(w.alloc (.cells exZ 32)).alloc (.cells #[.string ⟨s.toArray⟩,.int .i64 0] 54)) (by go_grown) hg (by omega);exact⟨rfl,HNO.out w1 HQ.out hb⟩
 | some r=>
  obtain⟨f,t⟩:=r;obtain⟨o,n,b,k,rfl⟩:∃o n b k,f=.cons o n b k .nil:=by
   have h1:=HOK.out f t rfl
   cases f with
   | nil=>exact h1.elim
   | cons o n b k r=>
    cases r with
    | nil=>exact⟨o,n,b,k,rfl⟩
    | cons=>exact h1.elim
  obtain⟨a2,c2,rfl,hkc,hrb,hg⟩:=hyes o n b k t rfl;obtain⟨hn1,hk1,hk2⟩:=HRD.out o n b k t rfl;have hb1:Below w.heap.size w w1:=gr_below (w:=(w.alloc (.cells exZ 32)).alloc (.cells #[.string ⟨s.toArray⟩,.int .i64 0] 54)) (by go_grown) hg (by omega);have hsz1:=hg.size;simp only[World.size_alloc] at hsz1 hkc
  have hT1:w1.heap[w.heap.size]? =some (.cells exZ 32 (0,0)):=(hg.block _ (by simp;omega) (fun e=>by injection e with e;omega)).trans (hp_al (hp_new _ rfl) _);have HK1:=qq hkc;have HB1:=qq hb1;have HT1:=qq hT1;have HRB:=qq hrb
  have HIN:Hid (∀W,Below w1.heap.size w1 W→ExIn w.heap.size W.heap.size ⟨o,n,b,k⟩ a2 ea W):=qq (fun W hW=>⟨hn1,hk1,hk2,(HK1.out.below (Nat.le_refl _) hW).keep (by omega) hW.size (fun _ _ _=>rfl),Nat.le_refl _,HEE.out.below (below_then HB1.out hW)⟩);have HQ2:=qq (pPar_some HQ.out);have hstr:=str_nil t
  have hstr2:((⟨t.toArray⟩:ByteArray).toList==[])=t.isEmpty:=by rw[ByteArray.toList_eq];cases t<;>simp
  clear hyes hno hn1 hk1 hk2 hkc hb1 hT1 hrb hg c0;obtain⟨nk,hnk⟩:∃z,z=k.len:=⟨_,rfl⟩
  rw[←hnk];have HNK:=qq hnk;clear hnk;go_wp2_with fail;generalize hW5:w1.alloc (.cells #[o,.string ⟨n.toArray⟩,.bool b,.slice a2 nk c2] 32)=w5;have hb5:Below w1.heap.size w1 w5:=by rw[←hW5];exact(Below.refl _ _).alloc (Nat.le_refl _) _
  have hk5:Blk w5 w1.heap.size #[o,.string ⟨n.toArray⟩,.bool b,.slice a2 nk c2]:=by rw[←hW5];exact Blk.fresh w1 _ _ _ rfl
  have HB5:=qq hb5;have HK5:=qq hk5;clear hW5 hb5 hk5;refine reg_start (fun w'=>Below w1.heap.size w1 w'∧Blk w' w1.heap.size #[o,.string ⟨n.toArray⟩,.bool b,.slice a2 nk c2]) (by kernel_rfl) ⟨bel_drew HB5.out,HK5.out.drew⟩ ?_;rintro w6 hHeld
  cases t with
  | cons tc tt=>
   have hstr3:((⟨(tc::tt).toArray⟩:ByteArray).toList==[])=false:=hstr2;have hstr4:((⟨(tc::tt).toArray⟩:ByteArray).toList==(⟨#[]⟩:ByteArray).toList)=false:=hstr;clear hstr hstr2;refine takeM (d:=some 9) 0 rfl rfl hHeld (fun w' hS'=>by clear hS';go_simp;(try rfl)) ?_;simp only[puts];refine takeM (d:=some 10) 1 rfl rfl hHeld (fun w' hS'=>by clear hS';go_simp;(try rfl)) ?_;simp only[puts]
   refine takeM (d:=some 11) 2 rfl rfl hHeld (fun w' hS'=>by clear hS';go_simp;(try rfl)) ?_;simp only[puts];refine takeM (d:=some 12) 3 rfl rfl hHeld (fun w' hS'=>by have qR:=(HRB.out.below hS'.1).cell;clear hS';go_simp;(try rfl)) ?_;simp only[puts];refine takeM (d:=some 13) 4 rfl rfl hHeld (fun w' hS'=>by clear hS';go_simp;(try rfl)) ?_;simp only[puts]
   refine takeM (d:=some 14) 5 rfl rfl hHeld (fun w' hS'=>by clear hS';go_simp;(try rfl)) ?_;simp only[puts];refine skipM (d:=some 15) 6 rfl rfl hHeld ?_;simp only[puts];refine skipM (d:=some 16) 7 rfl rfl hHeld ?_;simp only[puts];refine takeM (d:=some 17) 8 rfl rfl hHeld (fun w' hS'=>by clear hS';go_simp;(try rfl)) ?_;simp only[puts]
   refine takeM (d:=some 18) 9 rfl rfl hHeld (fun w' hS'=>by have qG:=HGE.out _ (below_then HB1.out hS'.1);clear hS';go_simp;(try rfl)) ?_;simp only[puts];refine one_M 10 (by kernel_rfl) ?_;refine wpOp_die [{v:=errV (ea 4),recovered:=false}] 10 20 _ _ [.bool false,errV (ea 4)] rfl rfl (enters_of Tryd.func20 (by kernel_rfl) rfl) (by rfl) (by rfl) ?_;refine(fail_no _ _).mono ?_;rintro e w8 ⟨rfl,rfl⟩
   exact⟨rfl,rfl,HNO.out _ (by rw[HQ2.out];rfl) (below_then HB1.out hHeld.1)⟩
  | nil=>
   have HRT:=qq (fun W (hW:Below w1.heap.size w1 W)=>right_of ⟨o,n,b,k⟩ a2 c2 w.heap.size W.heap.size ea W (HIN.out W hW));unfold exA at HRT;dsimp only at HRT;rw[←HNK.out] at HRT;clear hstr hstr2
   cases hr:pRight ⟨o,n,b,k⟩ with
   | false=>
    rw[hr] at HRT;have hqn:Q=none:=by rw[HQ2.out,hr];rfl
    refine takeM (d:=some 9) 0 rfl rfl hHeld (fun w' hS'=>by clear hS';go_simp;(try rfl)) ?_;simp only[puts];refine takeM (d:=some 10) 1 rfl rfl hHeld (fun w' hS'=>by clear hS';go_simp;(try rfl)) ?_;simp only[puts];refine takeM (d:=some 11) 2 rfl rfl hHeld (fun w' hS'=>by clear hS';go_simp;(try rfl)) ?_;simp only[puts]
    refine takeM (d:=some 12) 3 rfl rfl hHeld (fun w' hS'=>by have qR:=(HRB.out.below hS'.1).cell;clear hS';go_simp;(try rfl)) ?_;simp only[puts];refine takeM (d:=some 13) 4 rfl rfl hHeld (fun w' hS'=>by clear hS';go_simp;(try rfl)) ?_;simp only[puts];refine takeM (d:=some 14) 5 rfl rfl hHeld (fun w' hS'=>by clear hS';go_simp;(try rfl)) ?_;simp only[puts]
    refine takeM (d:=some 15) 6 rfl rfl hHeld (fun w' hS'=>by have qE:=hS'.2.cell;clear hS';go_simp;(try rfl)) ?_;simp only[puts];refine takeM (d:=some 18) 9 rfl rfl hHeld (fun w' hS'=>by have qG:=HGE.out _ (below_then HB1.out hS'.1);clear hS';go_simp;(try rfl)) ?_;simp only[puts];refine one_M 7 (by kernel_rfl) ?_
    refine wpOp_call (d:=some 16) 7 11 _ _ [.agg #[o,.string ⟨n.toArray⟩,.bool b,.slice a2 nk c2]] rfl rfl rfl (enters_of Tryd.func11 (by kernel_rfl) rfl) (by rfl) (by rfl) ?_;refine(HRT.out _ hHeld.1).mono ?_;rintro e w7 ⟨rfl,hb7⟩;refine ret_S ⟨below_then hHeld.1 hb7,hHeld.2.below hb7⟩ (fun hHeld=> ?_);simp only[puts]
    refine takeM (d:=some 17) 8 rfl rfl hHeld (fun w' hS'=>by clear hS';go_simp;(try rfl)) ?_;simp only[puts];refine one_M 10 (by kernel_rfl) ?_;refine wpOp_die [{v:=errV (ea 4),recovered:=false}] 10 20 _ _ [.bool false,errV (ea 4)] rfl rfl (enters_of Tryd.func20 (by kernel_rfl) rfl) (by rfl) (by rfl) ?_;refine(fail_no _ _).mono ?_;rintro e w8 ⟨rfl,rfl⟩
    exact⟨rfl,rfl,HNO.out _ hqn (below_then HB1.out hHeld.1)⟩
   | true=>
    rw[hr] at HRT;have hqs:Q=some ⟨o,n,b,k⟩:=by rw[HQ2.out,hr];rfl
    refine takeM (d:=some 9) 0 rfl rfl hHeld (fun w' hS'=>by clear hS';go_simp;(try rfl)) ?_;simp only[puts];refine takeM (d:=some 10) 1 rfl rfl hHeld (fun w' hS'=>by clear hS';go_simp;(try rfl)) ?_;simp only[puts];refine takeM (d:=some 11) 2 rfl rfl hHeld (fun w' hS'=>by clear hS';go_simp;(try rfl)) ?_;simp only[puts]
    refine takeM (d:=some 12) 3 rfl rfl hHeld (fun w' hS'=>by have qR:=(HRB.out.below hS'.1).cell;clear hS';go_simp;(try rfl)) ?_;simp only[puts];refine takeM (d:=some 13) 4 rfl rfl hHeld (fun w' hS'=>by clear hS';go_simp;(try rfl)) ?_;simp only[puts];refine takeM (d:=some 14) 5 rfl rfl hHeld (fun w' hS'=>by clear hS';go_simp;(try rfl)) ?_;simp only[puts]
    refine takeM (d:=some 15) 6 rfl rfl hHeld (fun w' hS'=>by have qE:=hS'.2.cell;clear hS';go_simp;(try rfl)) ?_;simp only[puts];refine takeM (d:=some 18) 9 rfl rfl hHeld (fun w' hS'=>by have qG:=HGE.out _ (below_then HB1.out hS'.1);clear hS';go_simp;(try rfl)) ?_;simp only[puts];refine one_M 7 (by kernel_rfl) ?_
    refine wpOp_call (d:=some 16) 7 11 _ _ [.agg #[o,.string ⟨n.toArray⟩,.bool b,.slice a2 nk c2]] rfl rfl rfl (enters_of Tryd.func11 (by kernel_rfl) rfl) (by rfl) (by rfl) ?_;refine(HRT.out _ hHeld.1).mono ?_;rintro e w7 ⟨rfl,hb7⟩;refine ret_S ⟨below_then hHeld.1 hb7,hHeld.2.below hb7⟩ (fun hHeld=> ?_);simp only[puts]
    refine takeM (d:=some 17) 8 rfl rfl hHeld (fun w' hS'=>by clear hS';go_simp;(try rfl)) ?_;simp only[puts];refine one_M 10 (by kernel_rfl) ?_;refine wpOp_call (d:=some 19) 10 20 _ _ [.bool true,errV (ea 4)] rfl rfl rfl (enters_of Tryd.func20 (by kernel_rfl) rfl) (by rfl) (by rfl) ?_;refine(fail_yes _ _).mono ?_;rintro e w8 ⟨rfl,rfl⟩;refine ret_S hHeld (fun hHeld=> ?_);simp only[puts]
    refine doneM (by kernel_rfl) ?_ _;have HFB:=qq hHeld.1;obtain⟨l8,q8,f8⟩:=hHeld.2;have HT8:=qq (hp_be HT1.out hHeld.1);have HF:=qq (HYES.out ⟨o,n,b,k⟩ a2 c2);clear hHeld hr;go_wp2_with (refine row_go 32 (.tmp 1) (.tmp 20) rfl rfl w.heap.size #[.int .i64 o,.string ⟨n.toArray⟩,.bool b,.slice a2 nk c2] exZ 32 HT8.out rfl rfl (by kernel_rfl) rfl (by simp[Value.oneCell']) ?_);intro w9 hb9 hg9
    have hz9:=hg9.size;have hbz:=HFB.out.size;have HEND:=qq (HF.out w9 hqs ((HK1.out.below (Nat.le_refl _) HFB.out).keep (by omega) (by omega) (fun j hj1 hj2=>hg9.block j (by omega) (fun e=>by injection e with e;omega))) (bel_gr (below_then HB1.out HFB.out) hg9 (by omega)));clear q8 f8;obtain⟨l9,q9,f9⟩:=hb9;unfold exA at HEND;dsimp only at HEND;rw[←HNK.out] at HEND;clear hqs;go_wp2_with fail
    exact bodyPost_ret (v:=.agg #[o,.string ⟨n.toArray⟩,.bool b,.slice a2 nk c2]) (by simp[results,Tryd.results18,go_sem,q9,f9]) rfl HEND.out
def ParEnds (r:PE×Int) (ea:Int→Addr) (w:World) (e:Ending) (w':World):Prop:=
 ∃a c,e=.returned (.tuple #[.agg (exA r.1 a c),errOf ea r.2])∧KC w.heap.size w'.heap.size w' r.1.kids a∧Below w.heap.size w w'
theorem parse_of (s : PStr) (ea : Int → Addr) (w : World) (hl : s.length ≤ 1000000) (hE : Errs ea w) :
    Calls Tryd.prog 10 #[.string ⟨s.toArray⟩] w (ParEnds (pParse s) ea w):=by
 have hmf:∀(fn:Fn) (first cap:Array Value) (w:World),(Instr.makeFunc fn first cap).run Tryd.prog w=.ok (.func fn first cap) w:=fun _ _ _ _=>rfl
 have HRES:Hid (∀r,pParse s=r→∀a c w',KC w.heap.size w'.heap.size w' r.1.kids a→Below w.heap.size w w'→ParEnds (pParse s) ea w (.returned (.tuple #[.agg (exA r.1 a c),errOf ea r.2])) w'):=qq (fun r hr a c w' h1 h2=>by rw[hr];exact⟨a,c,rfl,h1,h2⟩);have HP:Hid (pParse s=(if 20000<s.length then(⟨0,[],false,.nil⟩,3) else match pPar s with | some e=>(e,0) | none=>(⟨0,[],false,.nil⟩,4):PE×Int)):=qq rfl
 generalize ParEnds (pParse s) ea w=R at HRES⊢;have HGE:Hid (∀W,Below w.heap.size w W→W.cell? ⟨3,0,none⟩=some (errV (ea 3))):=qq (fun W hW=>(hE.below hW).e3);have HEE:=qq hE;have hsz:=str_size s;generalize hps:pParse s=ps at*;clear hps;by_cases hlong:20000<s.length
 · have HR:=qq (HRES.out (⟨0,[],false,.nil⟩,3) (by rw[HP.out,if_pos hlong]) none 0);have hgt:(20000:Int)<(s.length:Int):=by omega
   clear HRES HP hE hlong;generalize s.length=n at*;go_enter Tryd.func10,Tryd.ntmps10;go_wp2_with fail;have HB0:Below w.heap.size w ((w.alloc (.cells #[.string ⟨s.toArray⟩] 9)).alloc (.cells exZ 32)):=by go_grown
   have HT0:((w.alloc (.cells #[.string ⟨s.toArray⟩] 9)).alloc (.cells exZ 32)).heap[w.heap.size+1]? =some (.cells exZ 32 (0,0)):=hp_new _ (by simp);refine reg_start2 (fun w'=>Below w.heap.size w w') (fun w'=>w'.heap[w.heap.size+1]? =some (.cells exZ 32 (0,0))) (by kernel_rfl) (bel_drew HB0) (hp_dr HT0) ?_;rintro w1 hHeld hT1
   refine takeM (d:=some 7) 0 rfl rfl hHeld (fun w' hS'=>by clear hS';go_simp;(try rfl)) ?_;simp only[puts];refine takeM (d:=some 8) 1 rfl rfl hHeld (fun w' hS'=>by have qG:=HGE.out _ hS';clear hS';go_simp;(try rfl)) ?_;simp only[puts];refine one_M 2 (by kernel_rfl) ?_;refine row_M 2 32 _ _ rfl rfl rfl (w.heap.size+1) exZ exZ 32 hT1 rfl rfl (by kernel_rfl) rfl (by simp[exZ,Value.oneCell']) ?_
   intro w3 hb3 hg3;have HBF:=bel_gr hHeld hg3 (by omega);refine⟨HBF,fun hHeld=> ?_⟩;refine takeM (d:=some 3) 3 rfl rfl hHeld (fun w' hS'=>by clear hS';go_simp;(try rfl)) ?_;simp only[puts];refine doneM (by kernel_rfl) ?_ _;obtain⟨l3,q3,f3⟩:=hb3;clear hHeld;go_wp2_with fail
   exact bodyPost_ret (v:=.tuple #[.agg exZ,errV (ea 3)]) (by simp[results,Tryd.results10,go_sem,q3,f3,exZ]) rfl (HR.out w3 KC.nil HBF)
 · have hgt:¬(20000:Int)<(s.length:Int):=by omega
   have hs:s.length≤20000:=by omega
   have HB0:Hid (Below w.heap.size w ((w.alloc (.cells #[.string ⟨s.toArray⟩] 9)).alloc (.cells exZ 32))):=qq (by go_grown);have KB:Hid (Blk ((w.alloc (.cells #[.string ⟨s.toArray⟩] 9)).alloc (.cells exZ 32)) w.heap.size #[.string ⟨s.toArray⟩]):=qq ((Blk.fresh w _ _ _ rfl).alloc _)
   have HT0:Hid (((w.alloc (.cells #[.string ⟨s.toArray⟩] 9)).alloc (.cells exZ 32)).heap[w.heap.size+1]? =some (.cells exZ 32 (0,0))):=qq (hp_new _ (by simp));have H1:=qq (fun(W W2:World) (hW:Below w.heap.size w W) (hb:Blk W w.heap.size #[.string ⟨s.toArray⟩]) (hW2:Below W.heap.size W W2)=>parse1_of s ea w.heap.size W2 hs (HEE.out.below (below_then hW hW2)) (hb.below hW2))
   cases hq:pPar s with
   | none=>
    have HR:=qq (HRES.out (⟨0,[],false,.nil⟩,4) (by rw[HP.out,if_neg (by omega),hq]) none 0);have HTRY:=qq (fun(W:World) (hW:Below w.heap.size w W) (hb:Blk W w.heap.size #[.string ⟨s.toArray⟩])=>try_dies_ex ⟨w.heap.size,0,none⟩ 4 (by omega) ea W (HEE.out.below hW) (fun W2 hW2=>(H1.out W W2 hW hb hW2).mono (fun e w' he=>he.2 hq)));clear HRES HP hE hs hlong hq;generalize s.length=n at*
    go_enter Tryd.func10,Tryd.ntmps10;go_wp2_with fail;refine(HTRY.out _ HB0.out KB.out).mono ?_;rintro e w1 ⟨rfl,hb1⟩;have HB1:=qq (below_then HB0.out hb1);have HT1:=qq (hp_be HT0.out hb1);clear hb1;go_wp2_with (refine row_go 32 (.tmp 2) (.tmp 11) rfl rfl (w.heap.size+1) exZ exZ 32 HT1.out rfl rfl (by kernel_rfl) rfl (by simp[Value.oneCell',exZ]) ?_);intro w9 hb9 hg9
    have HEND:=qq (HR.out w9 KC.nil (bel_gr HB1.out hg9 (by omega)));obtain⟨l9,q9,f9⟩:=hb9;go_wp2_with fail;exact bodyPost_ret (v:=.tuple #[.agg exZ,errV (ea 4)]) (by simp[results,Tryd.results10,go_sem,q9,f9,exZ]) rfl HEND.out
   | some x=>
    have HR:=qq (HRES.out (x,0) (by rw[HP.out,if_neg (by omega),hq]));have HTRY:=qq (fun(W:World) (hW:Below w.heap.size w W) (hb:Blk W w.heap.size #[.string ⟨s.toArray⟩])=>try_gives_ex ⟨w.heap.size,0,none⟩ x (fun a W'=>KC (W.heap.size+3) W'.heap.size W' x.kids a) W (fun W2 hW2 hz2=>(H1.out W W2 hW hb hW2).mono (fun e w' he=>by
      obtain⟨a,c,h1,h2,h3⟩:=he.1 x hq;exact⟨a,c,h1,h2.keep hz2 (Nat.le_refl _) (fun _ _ _=>rfl),h3⟩)) (fun a W1 W2 h1 hz hk=>h1.keep (Nat.le_refl _) hz (fun k hk1 hk2=>hk k hk2 (.inr hk1))))
    clear HRES HP hE hs hlong hq;obtain⟨o,n,b,k⟩:=x;unfold exA at HTRY HR;dsimp only at HTRY HR;obtain⟨nk,hnk⟩:∃z,z=k.len:=⟨_,rfl⟩
    rw[←hnk] at HTRY HR;clear hnk;generalize s.length=m at*;go_enter Tryd.func10,Tryd.ntmps10;go_wp2_with fail;refine(HTRY.out _ HB0.out KB.out).mono ?_;rintro e w1 ⟨a2,c2,rfl,hk1,hb1⟩;have HB1:=qq (below_then HB0.out hb1);have HT1:=qq (hp_be HT0.out hb1);have HK1:=qq hk1;clear hb1 hk1
    go_wp2_with (refine row_go 32 (.tmp 2) (.tmp 11) rfl rfl (w.heap.size+1) #[.int .i64 o,.string ⟨n.toArray⟩,.bool b,.slice a2 nk c2] exZ 32 HT1.out rfl rfl (by kernel_rfl) rfl (by simp[Value.oneCell']) ?_);intro w9 hb9 hg9;have hg9z:=hg9.size
    have HEND:=qq (HR.out a2 c2 w9 (HK1.out.keep (by simp;omega) hg9z (fun j hj1 hj2=>hg9.block j hj2 (fun e=>by injection e with e;simp at hj1;omega))) (bel_gr HB1.out hg9 (by omega)));obtain⟨l9,q9,f9⟩:=hb9;go_wp2_with fail;exact bodyPost_ret (v:=.tuple #[.agg #[o,.string ⟨n.toArray⟩,.bool b,.slice a2 nk c2],.nilIface]) (by simp[results,Tryd.results10,go_sem,q9,f9]) rfl HEND.out
abbrev exAl:PE:=⟨2,[],false,.cons 1 [65] false .nil (.cons 3 [] false (.cons 1 [66] false .nil (.cons 1 [67] true .nil .nil)) .nil)⟩
theorem par_al:pParse [40,65,38,91,66,124,67,63,93,41]=(exAl,0):=by decide+kernel
theorem norm_al:pNormal exAl=([[[65]],[[65],[66]],[[65],[67]]],0):=by decide+kernel
theorem alive29_of (ea:Int→Addr) (w:World) (hE:Errs ea w):Calls Tryd.prog 4 #[] w (Makes (.bool true) w):=by
 have HP:=qq (parse_of [40,65,38,91,66,124,67,63,93,41] ea w (by decide) hE);have HEE:=qq hE;rw[par_al] at HP;clear hE;go_enter Tryd.func4,Tryd.ntmps4;go_wp2_with fail;refine HP.out.mono ?_;rintro e w1 ⟨a,c,he,hk,hb⟩;have he':e=.returned (.tuple #[.agg #[.int .i64 2,.string ⟨#[]⟩,.bool false,.slice a 2 c],.nilIface]):=he;subst he';clear he
 have HIN:Hid (∀W,Below w1.heap.size w1 W→ExIn w.heap.size w1.heap.size exAl a ea W):=qq (fun W hW=>⟨by decide,by decide,by simp[PF.small,PF.len],hk.below (Nat.le_refl _) hW,hW.size,HEE.out.below (below_then hb hW)⟩);have HN:=qq (fun W (hW:Below w1.heap.size w1 W)=>normal_of exAl a c w.heap.size w1.heap.size ea W (HIN.out W hW));rw[norm_al] at HN;have HB:=qq hb;clear hk hb
 have HN2:Hid (∀W,Below w1.heap.size w1 W→Calls Tryd.prog 6 #[.agg #[.int .i64 2,.string ⟨#[]⟩,.bool false,.slice a 2 c]] W (Alters W.heap.size ([[[65]],[[65],[66]],[[65],[67]]],0) ea W)):=qq (fun W hW=>HN.out W hW);clear HN;go_wp2_with fail;refine(HN2.out _ ((Below.refl _ _).alloc (Nat.le_refl _) _)).mono ?_;rintro e w2 ⟨v,he,hA,hb2⟩;have he':e=.returned (.tuple #[v,.nilIface]):=he;subst he'
 clear he;obtain⟨g0,a0,n0,k0,e0,_,d0,l0⟩:=alts_at hA 0 _ rfl;obtain⟨g1,a1,n1,k1,e1,_,d1,l1⟩:=alts_at hA 1 _ rfl;obtain⟨g2,a2,n2,k2,e2,hv2,d2,l2⟩:=alts_at hA 2 _ rfl;subst e0;injection e1 with e1 _ e1'
 injection e1 with e1
 injection e1 with e1
 subst e1 e1';injection e2 with e2 _ e2'
 injection e2 with e2
 injection e2 with e2
 subst e2 e2';obtain⟨a3,n3,e3,hx3⟩:=alt_cell hv2;obtain⟨b3,e4,c3,l3,hcap⟩:=hx3 1 [67] rfl;subst e4;injection e3 with e3 _ e3'
 subst e3 e3';have hB2:=qq (below_then (bel_alloc HB.out _) hb2);have q0:=d0 w2 (Below.refl _ _);have q1:=d1 w2 (Below.refl _ _);have q2:=d2 w2 (Below.refl _ _);simp only[List.length_cons,List.length_nil,encStr] at q0 q1 q2 c3 hcap;clear hA hv2 hx3 d0 d1 d2 hb2 HN2;go_wp2_with fail;go_ret;exact⟨rfl,hB2.out⟩
theorem pNormal_ok (e:PE):(pNormal e).1.length≤64∧∀a∈(pNormal e).1,a.length≤200:=by
 unfold pNormal;by_cases hr:pRight e=true
 · rw[if_pos hr]
   cases hp:pNorm e with
   | none=>exact⟨by simp,fun a ha=>by cases ha⟩
   | some l=>
    have h:=pNorm_ok hp;have:=pRight_sz hr;exact⟨h.2,fun a ha=>by have:=(h.1.one a ha).2;omega⟩
 · rw[if_neg hr];exact⟨by simp,fun a ha=>by cases ha⟩
def leafs:List PStr→PF
 | []=> .nil
 | s::t=> .cons 1 s false .nil (leafs t)
def alls:List PAlt→PF
 | []=> .nil
 | a::t=> .cons 2 [] false (leafs a) (alls t)
def cntA:List PAlt→Nat
 | []=>0
 | a::t=>1+a.length+cntA t
theorem leafs_len:∀l,(leafs l).len=l.length
 | []=>rfl
 | s::t=>by show(leafs t).len+1=_;rw[leafs_len t];rfl
theorem alls_len:∀l,(alls l).len=l.length
 | []=>rfl
 | s::t=>by show(alls t).len+1=_;rw[alls_len t];rfl
theorem leafs_snoc:∀(l:List PStr) (s:PStr),leafs (l ++ [s])=(leafs l).snoc ⟨1,s,false,.nil⟩
 | [],s=>rfl
 | x::t,s=>by show PF.cons 1 x false .nil (leafs (t ++ [s]))=PF.cons 1 x false .nil ((leafs t).snoc _);rw[leafs_snoc t s]
theorem alls_snoc:∀(l:List PAlt) (a:PAlt),alls (l ++ [a])=(alls l).snoc ⟨2,[],false,leafs a⟩
 | [],s=>rfl
 | x::t,s=>by show PF.cons 2 [] false (leafs x) (alls (t ++ [s]))=PF.cons 2 [] false (leafs x) ((alls t).snoc _);rw[alls_snoc t s]
theorem cntA_snoc:∀(l:List PAlt) (a:PAlt),cntA (l ++ [a])=cntA l+(1+a.length)
 | [],a=>by simp[cntA]
 | x::t,a=>by show 1+x.length+cntA (t ++ [a])=1+x.length+cntA t+_;rw[cntA_snoc t a];omega
theorem cntA_le {m:Nat}:∀(l:List PAlt),(∀a∈l,a.length≤m)→cntA l≤l.length*(m+1)
 | [],_=>by simp[cntA]
 | x::t,h=>by
  have h1:=cntA_le t (fun a ha=>h a (by simp[ha]));have h2:=h x (by simp);have h3:(x::t).length*(m+1)=t.length*(m+1)+(m+1):=by rw[List.length_cons,Nat.succ_mul]
  rw[h3];show 1+x.length+cntA t≤_
  omega
theorem leafs_size (d:Nat) (hd:d≤12):∀(l:List PStr) (n:Nat),(∀s∈l,isNm s=true)→n≤200→rSizes (leafs l) d n=if n+l.length≤200 then n+l.length else 201
 | [],n,_,hn=>by rw[leafs,rSizes];simp[hn]
 | s::t,n,h,hn=>by
  have hs:=h s (by simp);rw[leafs,rSizes];have hp:pOk 1 s false .nil=true:=by unfold pOk;rw[if_pos rfl,hs];rfl
  have e0:(if 12<d∨pOk 1 s false .nil=false then 201 else rSizes .nil (d+1) 1)=1:=by rw[if_neg (by rw[hp];simp;omega)];rfl
  simp only[e0];by_cases h2:200<n+1
  · rw[if_pos h2,if_neg (by simp;omega)]
  · rw[if_neg h2,leafs_size d hd t (n+1) (fun x hx=>h x (by simp[hx])) (by omega),List.length_cons];have e:n+1+t.length=n+(t.length+1):=by omega
    rw[e]
theorem alls_size:∀(l:List PAlt) (n:Nat),(∀a∈l,∀s∈a,isNm s=true)→n≤200→rSizes (alls l) 2 n=if n+cntA l≤200 then n+cntA l else 201
 | [],n,_,hn=>by rw[alls,rSizes];simp[cntA,hn]
 | a::t,n,h,hn=>by
  rw[alls,rSizes];have hp:pOk 2 [] false (leafs a)=true:=by unfold pOk;rw[if_neg (by omega)];rfl
  have e0:(if 12<2∨pOk 2 [] false (leafs a)=false then 201 else rSizes (leafs a) (2+1) 1)=if 1+a.length≤200 then 1+a.length else 201:=by rw[if_neg (by rw[hp];simp),leafs_size 3 (by omega) a 1 (h a (by simp)) (by omega)]
  simp only[e0];have hc:cntA (a::t)=1+a.length+cntA t:=rfl;by_cases h1:1+a.length≤200
  · rw[if_pos h1];by_cases h2:200<n+(1+a.length)
    · rw[if_pos h2,if_neg (by omega)]
    · rw[if_neg h2,alls_size t (n+(1+a.length)) (fun x hx=>h x (by simp[hx])) (by omega),hc];have e:n+(1+a.length)+cntA t=n+(1+a.length+cntA t):=by omega
      rw[e]
  · rw[if_neg h1,if_pos (by omega),if_neg (by omega)]
theorem alls_right (l:List PAlt) (h:∀a∈l,∀s∈a,isNm s=true):pRight ⟨3,[],false,alls l⟩=decide (1+cntA l≤200):=by
 rw[right_size];unfold rSize;dsimp only;have hp:pOk 3 [] false (alls l)=true:=by unfold pOk;rw[if_neg (by omega)];rfl
 rw[if_neg (by rw[hp];simp),alls_size l 1 h (by omega)];by_cases h1:1+cntA l≤200
 · rw[if_pos h1]
 · rw[if_neg h1,decide_eq_false h1];simp
theorem ris_snoc_ins {α:Type} {lt:α→α→Bool} (h:TO lt) (s:α):∀l:List α,(∀x∈l,lt x s=true)→ins lt s l=l ++ [s]
 | [],_=>rfl
 | x::t,hl=>by
  have hx:=hl x (by simp);rw[ins,if_neg (by rw[h.asym hx];simp),if_pos hx,ris_snoc_ins h s t (fun y hy=>hl y (by simp[hy]))];rfl
theorem leafs_norm:∀(l p:PAlt),Ris ltN (p ++l)→pN (leafs l) 2 [p]=some [p ++l]
 | [],p,_=>by rw[leafs,pN,List.append_nil]
 | s::t,p,h=>by
  rw[leafs,pN];have hp:Ris ltN p:=(List.pairwise_append.1 h).1;have hps:∀x∈p,ltN x s=true:=fun x hx=>(List.pairwise_append.1 h).2.2 x hx s (by simp)
  have e1:pSet (p ++ [s])=p ++ [s]:=by
   unfold pSet;rw[uni_app,uni_self toN hp];exact ris_snoc_ins toN s p hps
  have e2:pEach [p] [[s]]=[p ++ [s]]:=by unfold pEach;simp[e1]
  simp only[Bool.false_eq_true,if_false,if_true,Option.bind_some];rw[if_neg (by omega),e2];have e3:uni ltA [] [p ++ [s]]=[p ++ [s]]:=rfl;rw[e3,if_neg (by simp),leafs_norm t (p ++ [s]) (by rw[List.append_assoc];exact h),List.append_assoc];rfl
theorem alls_norm:∀(l acc:List PAlt),(∀a∈l,Ris ltN a)→pN (alls l) 3 acc=some (uni ltA acc l)
 | [],acc,_=>by rw[alls,pN];rfl
 | a::t,acc,h=>by
  rw[alls,pN];have e1:pN (leafs a) 2 [[]]=some [a]:=by have:=leafs_norm a [] (by simpa using h a (by simp));simpa using this
  rw[if_neg (by omega),if_pos rfl,e1];simp only[Option.bind_some,List.length_singleton];rw[if_pos (by omega)];simp only[Option.bind_some,if_true];rw[alls_norm t _ (fun x hx=>h x (by simp[hx]))];rfl
theorem leafs_small:∀(l:List PStr),(∀s∈l,s.length≤100000)→(leafs l).small
 | [],_=>True.intro
 | s::t,h=>⟨h s (by simp),by simp[PF.len],True.intro,leafs_small t (fun x hx=>h x (by simp[hx]))⟩
theorem isNm_len {s:PStr} (h:isNm s=true):s.length≤40:=by
 unfold isNm at h;simp at h;exact h.2
theorem alls_small:∀(l:List PAlt),(∀a∈l,a.length≤200∧∀s∈a,isNm s=true)→(alls l).small
 | [],_=>True.intro
 | a::t,h=>⟨by simp,by rw[leafs_len];have:=(h a (by simp)).1;omega,leafs_small a (fun s hs=>by have:=isNm_len ((h a (by simp)).2 s hs);omega),alls_small t (fun x hx=>h x (by simp[hx]))⟩
def PF.leafNm:PF→Prop
 | .nil=>True
 | .cons o n _ k r=>(o=1→isNm n=true)∧k.leafNm∧r.leafNm
theorem pCounts_leaf:∀(l:PF) (d m r:Nat),pCounts l d m=some r→l.leafNm
 | .nil,d,m,r,h=>True.intro
 | .cons o n b k t,d,m,r,h=>by
  unfold pCounts at h;split at h
  · cases h
  · rename_i hc
    obtain⟨q,h1,h2⟩:=Option.bind_eq_some_iff.1 h;refine⟨fun e=> ?_,pCounts_leaf k _ _ _ h1,pCounts_leaf t _ _ _ h2⟩;subst e
    cases hp:pOk 1 n b k with
    | false=>exact absurd (.inr (.inr hp)) hc
    | true=>
     unfold pOk at hp;rw[if_pos rfl] at hp;simp at hp;exact hp.1
theorem pN_names:∀(f:PF) (op:Int) (acc out:List PAlt),f.leafNm→(∀a∈acc,∀s∈a,isNm s=true)→pN f op acc=some out→∀a∈out,∀s∈a,isNm s=true
 | .nil,op,acc,out,_,h,he=>by
  unfold pN at he;injection he with he
  subst he;exact h
 | .cons o n b k r,op,acc,out,hf,h,he=>by
  obtain⟨hn,hk,hr⟩:=hf;unfold pN at he;obtain⟨l,hl,he⟩:=Option.bind_eq_some_iff.1 he;have hok:∀a∈l,∀s∈a,isNm s=true:=by
   by_cases h1:o=1
   · rw[if_pos h1] at hl;injection hl with hl
     subst hl;have:=hn h1
     cases b<;>simp[this]
   · rw[if_neg h1] at hl;obtain⟨o2,h2,h3⟩:=Option.bind_eq_some_iff.1 hl;split at h3
     · injection h3 with h3
       subst h3;exact pN_names k o _ o2 hk (by split<;>simp) h2
     · cases h3
  by_cases h3:op=3
  · rw[if_pos h3] at he;refine pN_names r op _ out hr (fun a ha=> ?_) he;rcases(uni_mem toA a l acc).1 ha with q | q
    · exact h a q
    · exact hok a q
  · rw[if_neg h3] at he;split at he
    · cases he
    · refine pN_names r op _ out hr (fun a ha s hs=> ?_) he;rcases(uni_mem toA a _ []).1 ha with q | q
      · cases q
      · unfold pEach at q;obtain⟨y,hy,q⟩:=List.mem_flatMap.1 q;obtain⟨z,hz,rfl⟩:=List.mem_map.1 q;rcases(uni_mem toN s _ []).1 hs with q | q
        · cases q
        · rcases List.mem_append.1 q with q | q
          · exact h y hy s q
          · exact hok z hz s q
theorem again_norm {e:PE} {l:List PAlt} (hr:pRight e=true) (h:pNorm e=some l):(pRight ⟨3,[],false,alls l⟩=decide (1+cntA l≤200))∧pNorm ⟨3,[],false,alls l⟩=some l∧∀a∈l,∀s∈a,isNm s=true:=by
 have hok:=pNorm_ok h;have hlf:e.one.leafNm:=by
  unfold pRight at hr;obtain⟨r,hr⟩:=Option.isSome_iff_exists.1 hr;exact pCounts_leaf _ _ _ _ hr
 have hnm:∀a∈l,∀s∈a,isNm s=true:=by
  unfold pNorm at h;by_cases h1:e.op=1
  · rw[if_pos h1] at h;injection h with h
    subst h;have:=hlf.1 h1
    cases e.opt<;>simp[this]
  · rw[if_neg h1] at h;obtain⟨o2,h2,h3⟩:=Option.bind_eq_some_iff.1 h;split at h3
    · injection h3 with h3
      subst h3;exact pN_names _ _ _ o2 hlf.2.1 (by split<;>simp) h2
    · cases h3
 refine⟨alls_right l hnm,?_,hnm⟩;unfold pNorm;dsimp only;rw[if_neg (by omega),if_neg (by omega),alls_norm l [] (fun a ha=>(hok.1.one a ha).1),uni_self toA hok.1.ris];simp only[Option.bind_some];rw[if_pos hok.2]
end Go.Proofs.YtbepkpjcjpmpmaaDoor
