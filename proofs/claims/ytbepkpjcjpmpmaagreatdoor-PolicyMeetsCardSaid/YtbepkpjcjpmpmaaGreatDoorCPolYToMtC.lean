/- PolY, PolZ, Al29, LwPW, MtC -/
import Derived.Test.YtbepkpjcjpmpmaaGreatDoorAPolW
import Derived.Test.YtbepkpjcjpmpmaaGreatDoorAPolXToPolU
import Derived.Test.YtbepkpjcjpmpmaaGreatDoorAPolPToStepS
import Derived.Test.YtbepkpjcjpmpmaaGreatDoorAPolLToDnA
import Derived.Test.YtbepkpjcjpmpmaaGreatDoorAPolVToPcC
import Derived.Test.YtbepkpjcjpmpmaaGreatDoorCMtAToMtB
set_option linter.unusedSimpArgs false
set_option linter.unusedVariables false
set_option maxRecDepth 100000
set_option maxHeartbeats 16000000
namespace Go.Proofs.YtbepkpjcjpmpmaaGreatDoor
open Go.RowKit Go.Shelf
theorem expr_all (g:Nat):ExprAt g:=by
 have h:∀n g,g≤n→ExprAt g:=by
  intro n
  induction n with
  | zero=>
   intro g hg s d rb ea w0 w h1;omega
  | succ n ih=>
   intro g hg;rcases Nat.lt_or_ge g (n+1) with h | h
   · exact ih g (by omega)
   · obtain rfl:g=n+1:=by omega
     exact expr_step n ih
 exact h g g (Nat.le_refl _)
def pPar (s:PStr):Option PE:=
 match rdGo (2*s.length+1) 0 s none with
 | some (.cons o n b k .nil,[])=>if pRight ⟨o,n,b,k⟩ then some ⟨o,n,b,k⟩ else none
 | _=>none
def pParse (s:PStr):PE×Int:=if 20000<s.length then(⟨0,[],false,.nil⟩,3) else match pPar s with | some e=>(e,0) | none=>(⟨0,[],false,.nil⟩,4)
theorem rd_small {g d:Nat} {s t:PStr} {o:Int} {n:PStr} {b:Bool} {k:PF} (hs:s.length≤20000) (h:rdGo g d s none=some (.cons o n b k .nil,t)):n.length≤100000∧k.len≤100000∧k.small:=by
 obtain⟨h1,h2,_,_⟩:=rd_ok 20000 g d s none _ _ hs h;have h3:k.sz+0+1+t.length≤s.length+1:=h1;have:=PF.len_sz k;exact⟨Nat.le_trans h2.1 (by omega),by omega,PF.small_of k 20000 20001 (by omega) (by omega) h2.2.1 (by omega)⟩
theorem pPar_some {Q : Option PE} {o : Int} {n : PStr} {b : Bool} {k : PF} {t : PStr} (h : Q = match (some (.cons o n b k .nil, t) : Option (PF × PStr)) with
    | some (.cons o n b k .nil,[])=>if pRight ⟨o,n,b,k⟩ then some ⟨o,n,b,k⟩ else none
    | _=>none):Q=if t.isEmpty then(if pRight ⟨o,n,b,k⟩ then some ⟨o,n,b,k⟩ else none) else none:=by
 rw[h]
 cases t<;>rfl
def Par1Ends (q:Option PE) (ea:Int→Addr) (w:World) (e:Ending) (w':World):Prop:=
 (∀x,q=some x→∃a c,e=.returned (.agg (exA x a c))∧KC w.heap.size w'.heap.size w' x.kids a∧Below w.heap.size w w')∧
 (q=none→e=.panicked [{v:=errV (ea 4),recovered:=false}]∧Below w.heap.size w w')
theorem parse1_of (s : PStr) (ea : Int → Addr) (p : Nat) (w : World) (hs : s.length ≤ 20000) (hE : Errs ea w) (hp : Blk w p #[.string ⟨s.toArray⟩]) :
    Calls Tryz.prog 39 #[.pointer (some ⟨p,0,none⟩)] w (Par1Ends (pPar s) ea w):=by
 have HYES:Hid (∀x a c w',pPar s=some x→KC w.heap.size w'.heap.size w' x.kids a→Below w.heap.size w w'→Par1Ends (pPar s) ea w (.returned (.agg (exA x a c))) w'):=qq (fun x a c w' h1 h2 h3=>⟨fun y hy=>(by rw[h1] at hy;injection hy with hy;subst hy;exact⟨a,c,rfl,h2,h3⟩),fun hn=>(by rw[h1] at hn;cases hn)⟩)
 have HNO:Hid (∀w',pPar s=none→Below w.heap.size w w'→Par1Ends (pPar s) ea w (.panicked [{v:=errV (ea 4),recovered:=false}]) w'):=qq (fun w' h1 h2=>⟨fun y hy=>(by rw[h1] at hy;cases hy),fun _=>⟨rfl,h2⟩⟩);have HQ:Hid (pPar s=match rdGo (2*s.length+1) 0 s none with
   | some (.cons o n b k .nil,[])=>if pRight ⟨o,n,b,k⟩ then some ⟨o,n,b,k⟩ else none
   | _=>none):=qq rfl
 generalize Par1Ends (pPar s) ea w=R at HYES HNO⊢;generalize pPar s=Q at*;have HEE:=qq hE;have HS:=qq hs;have HGE:Hid (∀W,Below w.heap.size w W→W.cell? ⟨0,0,none⟩=some (errV (ea 4))):=qq (fun W hW=>(hE.below hW).e4);have c0:w.cell? ⟨p,0,none⟩=some (.string ⟨s.toArray⟩):=hp.cell 0;have hlt:=hp.lt
 have HX:=qq (fun(W:World) (hW:Below w.heap.size w W) (h:RdB W (w.heap.size+1) s 0)=>expr_all (2*s.length+1) s 0 (w.heap.size+1) ea w W (by omega) hs (by omega) h hE (by omega) hW);have HRD:=qq (fun o n b k t h=>rd_small (g:=2*s.length+1) (d:=0) (s:=s) (t:=t) (o:=o) (n:=n) (b:=b) (k:=k) hs h);generalize hrd:rdGo (2*s.length+1) 0 s none=q at*
 have HOK:Hid (∀f t,q=some (f,t)→f.isOne):=qq (fun f t h=>(rd_ok 20000 _ 0 s none f t hs (hrd.trans h)).2.2.1);clear hs hE hp hrd;go_enter Tryz.func39,Tryz.ntmps39;go_wp2_with fail;refine(HX.out _ (by go_grown) (Blk.fresh _ _ _ _ (by simp))).mono ?_;rintro e w1 ⟨hyes,hno⟩
 cases q with
 | none=>
  obtain⟨rfl,_,hg⟩:=hno rfl;have hb:Below w.heap.size w w1:=gr_below (w:=(w.alloc (.cells exZ 27)).alloc (.cells #[.string ⟨s.toArray⟩,.int .i64 0] 85)) (by go_grown) hg (by omega);exact⟨rfl,HNO.out w1 HQ.out hb⟩
 | some r=>
  obtain⟨f,t⟩:=r;obtain⟨o,n,b,k,rfl⟩:∃o n b k,f=.cons o n b k .nil:=by
   have h1:=HOK.out f t rfl
   cases f with
   | nil=>exact h1.elim
   | cons o n b k r=>
    cases r with
    | nil=>exact⟨o,n,b,k,rfl⟩
    | cons=>exact h1.elim
  obtain⟨a2,c2,rfl,hkc,hrb,hg⟩:=hyes o n b k t rfl;obtain⟨hn1,hk1,hk2⟩:=HRD.out o n b k t rfl;have hb1:Below w.heap.size w w1:=gr_below (w:=(w.alloc (.cells exZ 27)).alloc (.cells #[.string ⟨s.toArray⟩,.int .i64 0] 85)) (by go_grown) hg (by omega);have hsz1:=hg.size;simp only[World.size_alloc] at hsz1 hkc
  have hT1:w1.heap[w.heap.size]? =some (.cells exZ 27 (0,0)):=(hg.block _ (by simp;omega) (fun e=>by injection e with e;omega)).trans (hp_al (hp_new _ rfl) _);have HK1:=qq hkc;have HB1:=qq hb1;have HT1:=qq hT1;have HRB:=qq hrb
  have HIN:Hid (∀W,Below w1.heap.size w1 W→ExIn w.heap.size W.heap.size ⟨o,n,b,k⟩ a2 ea W):=qq (fun W hW=>⟨hn1,hk1,hk2,(HK1.out.below (Nat.le_refl _) hW).keep (by omega) hW.size (fun _ _ _=>rfl),Nat.le_refl _,HEE.out.below (below_then HB1.out hW)⟩);have HQ2:=qq (pPar_some HQ.out);have hstr:=str_nil t
  have hstr2:((⟨t.toArray⟩:ByteArray).toList==[])=t.isEmpty:=by rw[ByteArray.toList_eq];cases t<;>simp
  clear hyes hno hn1 hk1 hk2 hkc hb1 hT1 hrb hg c0;obtain⟨nk,hnk⟩:∃z,z=k.len:=⟨_,rfl⟩
  rw[←hnk];have HNK:=qq hnk;clear hnk;go_wp2_with fail;generalize hW5:w1.alloc (.cells #[o,.string ⟨n.toArray⟩,.bool b,.slice a2 nk c2] 27)=w5;have hb5:Below w1.heap.size w1 w5:=by rw[←hW5];exact(Below.refl _ _).alloc (Nat.le_refl _) _
  have hk5:Blk w5 w1.heap.size #[o,.string ⟨n.toArray⟩,.bool b,.slice a2 nk c2]:=by rw[←hW5];exact Blk.fresh w1 _ _ _ rfl
  have HB5:=qq hb5;have HK5:=qq hk5;clear hW5 hb5 hk5;refine reg_start (fun w'=>Below w1.heap.size w1 w'∧Blk w' w1.heap.size #[o,.string ⟨n.toArray⟩,.bool b,.slice a2 nk c2]) (by kernel_rfl) ⟨bel_drew HB5.out,HK5.out.drew⟩ ?_;rintro w6 hHeld
  cases t with
  | cons tc tt=>
   have hstr3:((⟨(tc::tt).toArray⟩:ByteArray).toList==[])=false:=hstr2;have hstr4:((⟨(tc::tt).toArray⟩:ByteArray).toList==(⟨#[]⟩:ByteArray).toList)=false:=hstr;clear hstr hstr2;refine takeM (d:=some 9) 0 rfl rfl hHeld (fun w' hS'=>by clear hS';go_simp;(try rfl)) ?_;simp only[puts];refine takeM (d:=some 10) 1 rfl rfl hHeld (fun w' hS'=>by clear hS';go_simp;(try rfl)) ?_;simp only[puts]
   refine takeM (d:=some 11) 2 rfl rfl hHeld (fun w' hS'=>by clear hS';go_simp;(try rfl)) ?_;simp only[puts];refine takeM (d:=some 12) 3 rfl rfl hHeld (fun w' hS'=>by have qR:=(HRB.out.below hS'.1).cell;clear hS';go_simp;(try rfl)) ?_;simp only[puts];refine takeM (d:=some 13) 4 rfl rfl hHeld (fun w' hS'=>by clear hS';go_simp;(try rfl)) ?_;simp only[puts]
   refine takeM (d:=some 14) 5 rfl rfl hHeld (fun w' hS'=>by clear hS';go_simp;(try rfl)) ?_;simp only[puts];refine skipM (d:=some 15) 6 rfl rfl hHeld ?_;simp only[puts];refine skipM (d:=some 16) 7 rfl rfl hHeld ?_;simp only[puts];refine takeM (d:=some 17) 8 rfl rfl hHeld (fun w' hS'=>by clear hS';go_simp;(try rfl)) ?_;simp only[puts]
   refine takeM (d:=some 18) 9 rfl rfl hHeld (fun w' hS'=>by have qG:=HGE.out _ (below_then HB1.out hS'.1);clear hS';go_simp;(try rfl)) ?_;simp only[puts];refine one_M 10 (by kernel_rfl) ?_;refine wpOp_die [{v:=errV (ea 4),recovered:=false}] 10 41 _ _ [.bool false,errV (ea 4)] rfl rfl (enters_of Tryz.func41 (by kernel_rfl) rfl) (by rfl) (by rfl) ?_;refine(fail_no _ _).mono ?_;rintro e w8 ⟨rfl,rfl⟩
   exact⟨rfl,rfl,HNO.out _ (by rw[HQ2.out];rfl) (below_then HB1.out hHeld.1)⟩
  | nil=>
   have HRT:=qq (fun W (hW:Below w1.heap.size w1 W)=>right_of ⟨o,n,b,k⟩ a2 c2 w.heap.size W.heap.size ea W (HIN.out W hW));unfold exA at HRT;dsimp only at HRT;rw[←HNK.out] at HRT;clear hstr hstr2
   cases hr:pRight ⟨o,n,b,k⟩ with
   | false=>
    rw[hr] at HRT;have hqn:Q=none:=by rw[HQ2.out,hr];rfl
    refine takeM (d:=some 9) 0 rfl rfl hHeld (fun w' hS'=>by clear hS';go_simp;(try rfl)) ?_;simp only[puts];refine takeM (d:=some 10) 1 rfl rfl hHeld (fun w' hS'=>by clear hS';go_simp;(try rfl)) ?_;simp only[puts];refine takeM (d:=some 11) 2 rfl rfl hHeld (fun w' hS'=>by clear hS';go_simp;(try rfl)) ?_;simp only[puts]
    refine takeM (d:=some 12) 3 rfl rfl hHeld (fun w' hS'=>by have qR:=(HRB.out.below hS'.1).cell;clear hS';go_simp;(try rfl)) ?_;simp only[puts];refine takeM (d:=some 13) 4 rfl rfl hHeld (fun w' hS'=>by clear hS';go_simp;(try rfl)) ?_;simp only[puts];refine takeM (d:=some 14) 5 rfl rfl hHeld (fun w' hS'=>by clear hS';go_simp;(try rfl)) ?_;simp only[puts]
    refine takeM (d:=some 15) 6 rfl rfl hHeld (fun w' hS'=>by have qE:=hS'.2.cell;clear hS';go_simp;(try rfl)) ?_;simp only[puts];refine takeM (d:=some 18) 9 rfl rfl hHeld (fun w' hS'=>by have qG:=HGE.out _ (below_then HB1.out hS'.1);clear hS';go_simp;(try rfl)) ?_;simp only[puts];refine one_M 7 (by kernel_rfl) ?_
    refine wpOp_call (d:=some 16) 7 16 _ _ [.agg #[o,.string ⟨n.toArray⟩,.bool b,.slice a2 nk c2]] rfl rfl rfl (enters_of Tryz.func16 (by kernel_rfl) rfl) (by rfl) (by rfl) ?_;refine(HRT.out _ hHeld.1).mono ?_;rintro e w7 ⟨rfl,hb7⟩;refine ret_S ⟨below_then hHeld.1 hb7,hHeld.2.below hb7⟩ (fun hHeld=> ?_);simp only[puts]
    refine takeM (d:=some 17) 8 rfl rfl hHeld (fun w' hS'=>by clear hS';go_simp;(try rfl)) ?_;simp only[puts];refine one_M 10 (by kernel_rfl) ?_;refine wpOp_die [{v:=errV (ea 4),recovered:=false}] 10 41 _ _ [.bool false,errV (ea 4)] rfl rfl (enters_of Tryz.func41 (by kernel_rfl) rfl) (by rfl) (by rfl) ?_;refine(fail_no _ _).mono ?_;rintro e w8 ⟨rfl,rfl⟩
    exact⟨rfl,rfl,HNO.out _ hqn (below_then HB1.out hHeld.1)⟩
   | true=>
    rw[hr] at HRT;have hqs:Q=some ⟨o,n,b,k⟩:=by rw[HQ2.out,hr];rfl
    refine takeM (d:=some 9) 0 rfl rfl hHeld (fun w' hS'=>by clear hS';go_simp;(try rfl)) ?_;simp only[puts];refine takeM (d:=some 10) 1 rfl rfl hHeld (fun w' hS'=>by clear hS';go_simp;(try rfl)) ?_;simp only[puts];refine takeM (d:=some 11) 2 rfl rfl hHeld (fun w' hS'=>by clear hS';go_simp;(try rfl)) ?_;simp only[puts]
    refine takeM (d:=some 12) 3 rfl rfl hHeld (fun w' hS'=>by have qR:=(HRB.out.below hS'.1).cell;clear hS';go_simp;(try rfl)) ?_;simp only[puts];refine takeM (d:=some 13) 4 rfl rfl hHeld (fun w' hS'=>by clear hS';go_simp;(try rfl)) ?_;simp only[puts];refine takeM (d:=some 14) 5 rfl rfl hHeld (fun w' hS'=>by clear hS';go_simp;(try rfl)) ?_;simp only[puts]
    refine takeM (d:=some 15) 6 rfl rfl hHeld (fun w' hS'=>by have qE:=hS'.2.cell;clear hS';go_simp;(try rfl)) ?_;simp only[puts];refine takeM (d:=some 18) 9 rfl rfl hHeld (fun w' hS'=>by have qG:=HGE.out _ (below_then HB1.out hS'.1);clear hS';go_simp;(try rfl)) ?_;simp only[puts];refine one_M 7 (by kernel_rfl) ?_
    refine wpOp_call (d:=some 16) 7 16 _ _ [.agg #[o,.string ⟨n.toArray⟩,.bool b,.slice a2 nk c2]] rfl rfl rfl (enters_of Tryz.func16 (by kernel_rfl) rfl) (by rfl) (by rfl) ?_;refine(HRT.out _ hHeld.1).mono ?_;rintro e w7 ⟨rfl,hb7⟩;refine ret_S ⟨below_then hHeld.1 hb7,hHeld.2.below hb7⟩ (fun hHeld=> ?_);simp only[puts]
    refine takeM (d:=some 17) 8 rfl rfl hHeld (fun w' hS'=>by clear hS';go_simp;(try rfl)) ?_;simp only[puts];refine one_M 10 (by kernel_rfl) ?_;refine wpOp_call (d:=some 19) 10 41 _ _ [.bool true,errV (ea 4)] rfl rfl rfl (enters_of Tryz.func41 (by kernel_rfl) rfl) (by rfl) (by rfl) ?_;refine(fail_yes _ _).mono ?_;rintro e w8 ⟨rfl,rfl⟩;refine ret_S hHeld (fun hHeld=> ?_);simp only[puts]
    refine doneM (by kernel_rfl) ?_ _;have HFB:=qq hHeld.1;obtain⟨l8,q8,f8⟩:=hHeld.2;have HT8:=qq (hp_be HT1.out hHeld.1);have HF:=qq (HYES.out ⟨o,n,b,k⟩ a2 c2);clear hHeld hr;go_wp2_with (refine row_go 27 (.tmp 1) (.tmp 20) rfl rfl w.heap.size #[.int .i64 o,.string ⟨n.toArray⟩,.bool b,.slice a2 nk c2] exZ 27 HT8.out rfl rfl (by kernel_rfl) rfl (by simp[Value.oneCell']) ?_);intro w9 hb9 hg9
    have hz9:=hg9.size;have hbz:=HFB.out.size;have HEND:=qq (HF.out w9 hqs ((HK1.out.below (Nat.le_refl _) HFB.out).keep (by omega) (by omega) (fun j hj1 hj2=>hg9.block j (by omega) (fun e=>by injection e with e;omega))) (bel_gr (below_then HB1.out HFB.out) hg9 (by omega)));clear q8 f8;obtain⟨l9,q9,f9⟩:=hb9;unfold exA at HEND;dsimp only at HEND;rw[←HNK.out] at HEND;clear hqs;go_wp2_with fail
    exact bodyPost_ret (v:=.agg #[o,.string ⟨n.toArray⟩,.bool b,.slice a2 nk c2]) (by simp[results,Tryz.results39,go_sem,q9,f9]) rfl HEND.out
def ParEnds (r:PE×Int) (ea:Int→Addr) (w:World) (e:Ending) (w':World):Prop:=
 ∃a c,e=.returned (.tuple #[.agg (exA r.1 a c),errOf ea r.2])∧KC w.heap.size w'.heap.size w' r.1.kids a∧Below w.heap.size w w'
theorem parse_of (s : PStr) (ea : Int → Addr) (w : World) (hl : s.length ≤ 1000000) (hE : Errs ea w) :
    Calls Tryz.prog 17 #[.string ⟨s.toArray⟩] w (ParEnds (pParse s) ea w):=by
 have hmf:∀(fn:Fn) (first cap:Array Value) (w:World),(Instr.makeFunc fn first cap).run Tryz.prog w=.ok (.func fn first cap) w:=fun _ _ _ _=>rfl
 have HRES:Hid (∀r,pParse s=r→∀a c w',KC w.heap.size w'.heap.size w' r.1.kids a→Below w.heap.size w w'→ParEnds (pParse s) ea w (.returned (.tuple #[.agg (exA r.1 a c),errOf ea r.2])) w'):=qq (fun r hr a c w' h1 h2=>by rw[hr];exact⟨a,c,rfl,h1,h2⟩);have HP:Hid (pParse s=(if 20000<s.length then(⟨0,[],false,.nil⟩,3) else match pPar s with | some e=>(e,0) | none=>(⟨0,[],false,.nil⟩,4):PE×Int)):=qq rfl
 generalize ParEnds (pParse s) ea w=R at HRES⊢;have HGE:Hid (∀W,Below w.heap.size w W→W.cell? ⟨3,0,none⟩=some (errV (ea 3))):=qq (fun W hW=>(hE.below hW).e3);have HEE:=qq hE;have hsz:=str_size s;generalize hps:pParse s=ps at*;clear hps;by_cases hlong:20000<s.length
 · have HR:=qq (HRES.out (⟨0,[],false,.nil⟩,3) (by rw[HP.out,if_pos hlong]) none 0);have hgt:(20000:Int)<(s.length:Int):=by omega
   clear HRES HP hE hlong;generalize s.length=n at*;go_enter Tryz.func17,Tryz.ntmps17;go_wp2_with fail;have HB0:Below w.heap.size w ((w.alloc (.cells #[.string ⟨s.toArray⟩] 9)).alloc (.cells exZ 27)):=by go_grown
   have HT0:((w.alloc (.cells #[.string ⟨s.toArray⟩] 9)).alloc (.cells exZ 27)).heap[w.heap.size+1]? =some (.cells exZ 27 (0,0)):=hp_new _ (by simp);refine reg_start2 (fun w'=>Below w.heap.size w w') (fun w'=>w'.heap[w.heap.size+1]? =some (.cells exZ 27 (0,0))) (by kernel_rfl) (bel_drew HB0) (hp_dr HT0) ?_;rintro w1 hHeld hT1
   refine takeM (d:=some 7) 0 rfl rfl hHeld (fun w' hS'=>by clear hS';go_simp;(try rfl)) ?_;simp only[puts];refine takeM (d:=some 8) 1 rfl rfl hHeld (fun w' hS'=>by have qG:=HGE.out _ hS';clear hS';go_simp;(try rfl)) ?_;simp only[puts];refine one_M 2 (by kernel_rfl) ?_;refine row_M 2 27 _ _ rfl rfl rfl (w.heap.size+1) exZ exZ 27 hT1 rfl rfl (by kernel_rfl) rfl (by simp[exZ,Value.oneCell']) ?_
   intro w3 hb3 hg3;have HBF:=bel_gr hHeld hg3 (by omega);refine⟨HBF,fun hHeld=> ?_⟩;refine takeM (d:=some 3) 3 rfl rfl hHeld (fun w' hS'=>by clear hS';go_simp;(try rfl)) ?_;simp only[puts];refine doneM (by kernel_rfl) ?_ _;obtain⟨l3,q3,f3⟩:=hb3;clear hHeld;go_wp2_with fail
   exact bodyPost_ret (v:=.tuple #[.agg exZ,errV (ea 3)]) (by simp[results,Tryz.results17,go_sem,q3,f3,exZ]) rfl (HR.out w3 KC.nil HBF)
 · have hgt:¬(20000:Int)<(s.length:Int):=by omega
   have hs:s.length≤20000:=by omega
   have HB0:Hid (Below w.heap.size w ((w.alloc (.cells #[.string ⟨s.toArray⟩] 9)).alloc (.cells exZ 27))):=qq (by go_grown);have KB:Hid (Blk ((w.alloc (.cells #[.string ⟨s.toArray⟩] 9)).alloc (.cells exZ 27)) w.heap.size #[.string ⟨s.toArray⟩]):=qq ((Blk.fresh w _ _ _ rfl).alloc _)
   have HT0:Hid (((w.alloc (.cells #[.string ⟨s.toArray⟩] 9)).alloc (.cells exZ 27)).heap[w.heap.size+1]? =some (.cells exZ 27 (0,0))):=qq (hp_new _ (by simp));have H1:=qq (fun(W W2:World) (hW:Below w.heap.size w W) (hb:Blk W w.heap.size #[.string ⟨s.toArray⟩]) (hW2:Below W.heap.size W W2)=>parse1_of s ea w.heap.size W2 hs (HEE.out.below (below_then hW hW2)) (hb.below hW2))
   cases hq:pPar s with
   | none=>
    have HR:=qq (HRES.out (⟨0,[],false,.nil⟩,4) (by rw[HP.out,if_neg (by omega),hq]) none 0);have HTRY:=qq (fun(W:World) (hW:Below w.heap.size w W) (hb:Blk W w.heap.size #[.string ⟨s.toArray⟩])=>try_dies_ex ⟨w.heap.size,0,none⟩ 4 (by omega) ea W (HEE.out.below hW) (fun W2 hW2=>(H1.out W W2 hW hb hW2).mono (fun e w' he=>he.2 hq)));clear HRES HP hE hs hlong hq;generalize s.length=n at*
    go_enter Tryz.func17,Tryz.ntmps17;go_wp2_with fail;refine(HTRY.out _ HB0.out KB.out).mono ?_;rintro e w1 ⟨rfl,hb1⟩;have HB1:=qq (below_then HB0.out hb1);have HT1:=qq (hp_be HT0.out hb1);clear hb1;go_wp2_with (refine row_go 27 (.tmp 2) (.tmp 11) rfl rfl (w.heap.size+1) exZ exZ 27 HT1.out rfl rfl (by kernel_rfl) rfl (by simp[Value.oneCell',exZ]) ?_);intro w9 hb9 hg9
    have HEND:=qq (HR.out w9 KC.nil (bel_gr HB1.out hg9 (by omega)));obtain⟨l9,q9,f9⟩:=hb9;go_wp2_with fail;exact bodyPost_ret (v:=.tuple #[.agg exZ,errV (ea 4)]) (by simp[results,Tryz.results17,go_sem,q9,f9,exZ]) rfl HEND.out
   | some x=>
    have HR:=qq (HRES.out (x,0) (by rw[HP.out,if_neg (by omega),hq]));have HTRY:=qq (fun(W:World) (hW:Below w.heap.size w W) (hb:Blk W w.heap.size #[.string ⟨s.toArray⟩])=>try_gives_ex ⟨w.heap.size,0,none⟩ x (fun a W'=>KC (W.heap.size+3) W'.heap.size W' x.kids a) W (fun W2 hW2 hz2=>(H1.out W W2 hW hb hW2).mono (fun e w' he=>by
      obtain⟨a,c,h1,h2,h3⟩:=he.1 x hq;exact⟨a,c,h1,h2.keep hz2 (Nat.le_refl _) (fun _ _ _=>rfl),h3⟩)) (fun a W1 W2 h1 hz hk=>h1.keep (Nat.le_refl _) hz (fun k hk1 hk2=>hk k hk2 (.inr hk1))))
    clear HRES HP hE hs hlong hq;obtain⟨o,n,b,k⟩:=x;unfold exA at HTRY HR;dsimp only at HTRY HR;obtain⟨nk,hnk⟩:∃z,z=k.len:=⟨_,rfl⟩
    rw[←hnk] at HTRY HR;clear hnk;generalize s.length=m at*;go_enter Tryz.func17,Tryz.ntmps17;go_wp2_with fail;refine(HTRY.out _ HB0.out KB.out).mono ?_;rintro e w1 ⟨a2,c2,rfl,hk1,hb1⟩;have HB1:=qq (below_then HB0.out hb1);have HT1:=qq (hp_be HT0.out hb1);have HK1:=qq hk1;clear hb1 hk1
    go_wp2_with (refine row_go 27 (.tmp 2) (.tmp 11) rfl rfl (w.heap.size+1) #[.int .i64 o,.string ⟨n.toArray⟩,.bool b,.slice a2 nk c2] exZ 27 HT1.out rfl rfl (by kernel_rfl) rfl (by simp[Value.oneCell']) ?_);intro w9 hb9 hg9;have hg9z:=hg9.size
    have HEND:=qq (HR.out a2 c2 w9 (HK1.out.keep (by simp;omega) hg9z (fun j hj1 hj2=>hg9.block j hj2 (fun e=>by injection e with e;simp at hj1;omega))) (bel_gr HB1.out hg9 (by omega)));obtain⟨l9,q9,f9⟩:=hb9;go_wp2_with fail;exact bodyPost_ret (v:=.tuple #[.agg #[o,.string ⟨n.toArray⟩,.bool b,.slice a2 nk c2],.nilIface]) (by simp[results,Tryz.results17,go_sem,q9,f9]) rfl HEND.out
abbrev exAl:PE:=⟨2,[],false,.cons 1 [65] false .nil (.cons 3 [] false (.cons 1 [66] false .nil (.cons 1 [67] true .nil .nil)) .nil)⟩
theorem par_al:pParse [40,65,38,91,66,124,67,63,93,41]=(exAl,0):=by decide+kernel
theorem norm_al:pNormal exAl=([[[65]],[[65],[66]],[[65],[67]]],0):=by decide+kernel
theorem alive29_of (ea:Int→Addr) (w:World) (hE:Errs ea w):Calls Tryz.prog 8 #[] w (Makes (.bool true) w):=by
 have HP:=qq (parse_of [40,65,38,91,66,124,67,63,93,41] ea w (by decide) hE);have HEE:=qq hE;rw[par_al] at HP;clear hE;go_enter Tryz.func8,Tryz.ntmps8;go_wp2_with fail;refine HP.out.mono ?_;rintro e w1 ⟨a,c,he,hk,hb⟩;have he':e=.returned (.tuple #[.agg #[.int .i64 2,.string ⟨#[]⟩,.bool false,.slice a 2 c],.nilIface]):=he;subst he';clear he
 have HIN:Hid (∀W,Below w1.heap.size w1 W→ExIn w.heap.size w1.heap.size exAl a ea W):=qq (fun W hW=>⟨by decide,by decide,by simp[PF.small,PF.len],hk.below (Nat.le_refl _) hW,hW.size,HEE.out.below (below_then hb hW)⟩);have HN:=qq (fun W (hW:Below w1.heap.size w1 W)=>normal_of exAl a c w.heap.size w1.heap.size ea W (HIN.out W hW));rw[norm_al] at HN;have HB:=qq hb;clear hk hb
 have HN2:Hid (∀W,Below w1.heap.size w1 W→Calls Tryz.prog 11 #[.agg #[.int .i64 2,.string ⟨#[]⟩,.bool false,.slice a 2 c]] W (Alters W.heap.size ([[[65]],[[65],[66]],[[65],[67]]],0) ea W)):=qq (fun W hW=>HN.out W hW);clear HN;go_wp2_with fail;refine(HN2.out _ ((Below.refl _ _).alloc (Nat.le_refl _) _)).mono ?_;rintro e w2 ⟨v,he,hA,hb2⟩;have he':e=.returned (.tuple #[v,.nilIface]):=he;subst he'
 clear he;obtain⟨g0,a0,n0,k0,e0,_,d0,l0⟩:=alts_at hA 0 _ rfl;obtain⟨g1,a1,n1,k1,e1,_,d1,l1⟩:=alts_at hA 1 _ rfl;obtain⟨g2,a2,n2,k2,e2,hv2,d2,l2⟩:=alts_at hA 2 _ rfl;subst e0;injection e1 with e1 _ e1'
 injection e1 with e1
 injection e1 with e1
 subst e1 e1';injection e2 with e2 _ e2'
 injection e2 with e2
 injection e2 with e2
 subst e2 e2';obtain⟨a3,n3,e3,hx3⟩:=alt_cell hv2;obtain⟨b3,e4,c3,l3,hcap⟩:=hx3 1 [67] rfl;subst e4;injection e3 with e3 _ e3'
 subst e3 e3';have hB2:=qq (below_then (bel_alloc HB.out _) hb2);have q0:=d0 w2 (Below.refl _ _);have q1:=d1 w2 (Below.refl _ _);have q2:=d2 w2 (Below.refl _ _);simp only[List.length_cons,List.length_nil,encStr] at q0 q1 q2 c3 hcap;clear hA hv2 hx3 d0 d1 d2 hb2 HN2;go_wp2_with fail;go_ret;exact⟨rfl,hB2.out⟩
theorem pNormal_ok (e:PE):(pNormal e).1.length≤64∧∀a∈(pNormal e).1,a.length≤200:=by
 unfold pNormal;by_cases hr:pRight e=true
 · rw[if_pos hr]
   cases hp:pNorm e with
   | none=>exact⟨by simp,fun a ha=>by cases ha⟩
   | some l=>
    have h:=pNorm_ok hp;have:=pRight_sz hr;exact⟨h.2,fun a ha=>by have:=(h.1.one a ha).2;omega⟩
 · rw[if_neg hr];exact⟨by simp,fun a ha=>by cases ha⟩
theorem pNormal_num (e:PE):((pNormal e).2=0∨(pNormal e).2=4∨(pNormal e).2=6)∧pRight e= !((pNormal e).2==4):=by
 unfold pNormal;by_cases hr:pRight e=true
 · rw[if_pos hr]
   cases hp:pNorm e with
   | none=>exact⟨.inr (.inr rfl),hr⟩
   | some l=>exact⟨.inl rfl,hr⟩
 · rw[if_neg hr];exact⟨.inr (.inl rfl),by simpa using hr⟩
theorem num_err (n:Int) (hn:0≤n∧n≤14) (ea:Int→Addr) (w:World) (h:Errs ea w):Calls Tryz.prog 15 #[errOf ea n] w (Makes (.int .i64 n) w):=by
 by_cases h0:n=0
 · subst h0;have e:errOf ea 0=.nilIface:=rfl;rw[e];exact num_nil w
 · have e:errOf ea n=errV (ea n):=by unfold errOf;rw[if_neg h0]
   rw[e];exact num_some n (by omega) ea w h
def pMeet (e f:PE):List PAlt×Int:=if(pNormal e).2≠0 then([],(pNormal e).2) else if(pNormal f).2≠0 then([],(pNormal f).2) else((pNormal e).1.filter fun x=>(pNormal f).1.any fun z=>decide (z=x),0)
theorem meet_filter (y l:List PAlt):(l.filter fun x=> !(!y.any fun z=>decide (z=x)))=l.filter fun x=>y.any fun z=>decide (z=x):=by simp
theorem meet_of (e f : PE) (a a2 : Option Addr) (c c2 B E B2 E2 : Nat) (ea : Int → Addr) (w : World) (h1 : ExIn B E e a ea w) (h2 : ExIn B2 E2 f a2 ea w) :
    Calls Tryz.prog 20 #[.agg (exA e a c),.agg (exA f a2 c2)] w (Alters w.heap.size (pMeet e f) ea w):=by
 have hmf:∀(fn:Fn) (first cap:Array Value) (w:World),(Instr.makeFunc fn first cap).run Tryz.prog w=.ok (.func fn first cap) w:=fun _ _ _ _=>rfl
 have HN1:=qq (fun W (hW:Below w.heap.size w W)=>normal_of e a c B E ea W (h1.below hW));have HN2:=qq (fun W (hW:Below w.heap.size w W)=>normal_of f a2 c2 B2 E2 ea W (h2.below hW))
 have HRES:Hid (∀r,pMeet e f=r→∀v w',AltsV 49 w.heap.size w' v r.1→Below w.heap.size w w'→Alters w.heap.size (pMeet e f) ea w (.returned (.tuple #[v,errOf ea r.2])) w'):=qq (fun r hr v w' h1 h2=>by rw[hr];exact⟨v,rfl,h1,h2⟩)
 have HDEF:Hid (pMeet e f=(if(pNormal e).2≠0 then([],(pNormal e).2) else if(pNormal f).2≠0 then([],(pNormal f).2) else((pNormal e).1.filter fun x=>(pNormal f).1.any fun z=>decide (z=x),0):List PAlt×Int)):=qq rfl;have HO1:=qq (pNormal_ok e);have HO2:=qq (pNormal_ok f);generalize Alters w.heap.size (pMeet e f) ea w=R at HRES⊢;generalize pMeet e f=pm at*;generalize pNormal e=r1 at*
 generalize pNormal f=r2 at*;obtain⟨l1,n1⟩:=r1;obtain⟨l2,n2⟩:=r2;obtain⟨o1,nm1,b1,k1⟩:=e;obtain⟨o2,nm2,b2,k2⟩:=f;unfold exA at*;dsimp only at*;clear h1 h2
 have KB1:Hid (Blk ((w.alloc (.cells #[o1,.string ⟨nm1.toArray⟩,.bool b1,.slice a k1.len c] 27)).alloc (.cells #[o2,.string ⟨nm2.toArray⟩,.bool b2,.slice a2 k2.len c2] 27)) w.heap.size #[.int .i64 o1,.string ⟨nm1.toArray⟩,.bool b1,.slice a k1.len c]):=qq ((Blk.fresh w _ _ _ rfl).alloc _)
 have KB2:Hid (Blk ((w.alloc (.cells #[o1,.string ⟨nm1.toArray⟩,.bool b1,.slice a k1.len c] 27)).alloc (.cells #[o2,.string ⟨nm2.toArray⟩,.bool b2,.slice a2 k2.len c2] 27)) (w.heap.size+1) #[.int .i64 o2,.string ⟨nm2.toArray⟩,.bool b2,.slice a2 k2.len c2]):=qq (Blk.fresh _ _ _ _ (by simp))
 have HB0:Hid (Below w.heap.size w ((w.alloc (.cells #[o1,.string ⟨nm1.toArray⟩,.bool b1,.slice a k1.len c] 27)).alloc (.cells #[o2,.string ⟨nm2.toArray⟩,.bool b2,.slice a2 k2.len c2] 27))):=qq (by go_grown);by_cases hn1:n1=0
 case neg=>
  have he:errOf ea n1=errV (ea n1):=if_neg hn1;have HF:=qq (HRES.out ([],n1) (by rw[HDEF.out,if_pos hn1]) (.slice none 0 0));dsimp only at HF;rw[he] at HF;go_enter Tryz.func20,Tryz.ntmps20;go_wp2_with fail;refine(HN1.out _ HB0.out).mono ?_;rintro e w1 ⟨v1,rfl,hv1,hb1⟩;dsimp only at hv1⊢;rw[he];have HFF:=qq (HF.out w1 (AltsV.nil _ _ _) (below_then HB0.out hb1));obtain⟨a1,c1,rfl⟩:=hv1.row
  clear hv1 hb1 he;go_wp2_with fail
  (try go_ret)
  exact HFF.out
 subst hn1;have he0:errOf ea 0=.nilIface:=rfl;by_cases hn2:n2=0
 case neg=>
  have he:errOf ea n2=errV (ea n2):=if_neg hn2;have HF:=qq (HRES.out ([],n2) (by rw[HDEF.out,if_neg (by simp),if_pos hn2]) (.slice none 0 0));dsimp only at HF;rw[he] at HF;go_enter Tryz.func20,Tryz.ntmps20;go_wp2_with fail;refine(HN1.out _ HB0.out).mono ?_;rintro e w1 ⟨v1,rfl,hv1,hb1⟩;dsimp only at hv1⊢;rw[he0];have HB1:=qq (below_then HB0.out hb1);have HK2:=qq (KB2.out.below hb1)
  obtain⟨a1,c1,rfl⟩:=hv1.row;obtain⟨lk,qk,fk⟩:=HK2.out;clear hv1 hb1 he0;go_wp2_with fail;refine(HN2.out _ HB1.out).mono ?_;rintro e w2 ⟨v2,rfl,hv2,hb2⟩;dsimp only at hv2⊢;rw[he];obtain⟨a3,c3,rfl⟩:=hv2.row;have HFF:=qq (HF.out (w2.alloc (.cells #[.slice a3 l2.length c3] 29)) (AltsV.nil _ _ _) (bel_alloc (below_then HB1.out hb2) _));clear hv2 hb2 he qk fk lk;go_wp2_with fail
  (try go_ret)
  exact HFF.out
 subst hn2;have HF:=qq (HRES.out (l1.filter fun x=>l2.any fun z=>decide (z=x),0) (by rw[HDEF.out,if_neg (by simp),if_neg (by simp)]));dsimp only at HF HO1 HO2;rw[he0] at HF;clear HRES HDEF;go_enter Tryz.func20,Tryz.ntmps20;go_wp2_with fail;refine(HN1.out _ HB0.out).mono ?_;rintro e w1 ⟨v1,rfl,hv1,hb1⟩;dsimp only at hv1⊢;rw[he0];have HB1:=qq (below_then HB0.out hb1);have HK2:=qq (KB2.out.below hb1)
 have HV1:=qq hv1;obtain⟨a1,c1,rfl⟩:=hv1.row;obtain⟨lk,qk,fk⟩:=HK2.out;have hz1:=HB1.out.size;clear hv1 hb1;go_wp2_with fail;refine(HN2.out _ HB1.out).mono ?_;rintro e w2 ⟨v2,rfl,hv2,hb2⟩;dsimp only at hv2⊢;rw[he0];have hz2:=hb2.size;have HB2:=qq (below_then HB1.out hb2);obtain⟨a3,c3,rfl⟩:=hv2.row
 have hba:Below w2.heap.size w2 (w2.alloc (.cells #[.slice a3 l2.length c3] 29)):=(Below.refl _ _).alloc (Nat.le_refl _) _;have HBA:=qq hba;have KY:=qq (Blk.fresh w2 #[.slice a3 l2.length c3] 29 _ rfl);have HV2:=qq (hv2.below hba);have HV1b:=qq ((HV1.out.below hb2).below hba)
 have HD:=qq (delete_of (.pointer (some ⟨w2.heap.size,0,none⟩)) (fun x=> !l2.any fun z=>decide (z=x)) w.heap.size (.slice a1 l1.length c1) l1 (w2.alloc (.cells #[.slice a3 l2.length c3] 29)) (HV1b.out.base (by have:=HB0.out.size;omega)) (by have:=HO1.out.1;omega) (fun W x ax cx hg hx hv=>by
   have hob:∀q,(Value.slice a1 l1.length c1).ownBlock=some q→q<w1.heap.size:=fun q hq=>by
     obtain⟨vs,hr,_⟩:=HV1.out;exact(hr.lt q hq).2
   have hvy:AltsV 49 w1.heap.size W (.slice a3 l2.length c3) l2:=by
     obtain⟨vs,hr,ha⟩:=HV2.out;refine⟨vs,row_heap hr (fun k hk=>hg.block k (hr.lt k hk).2 (fun he=>by have:=(hr.lt k hk).1;have:=hob k he.symm;omega)),ha.1,fun i hi=>row_heap (ha.2 i hi) (fun k hk=>hg.block k ((ha.2 i hi).lt k hk).2 (fun he=>by have:=((ha.2 i hi).lt k hk).1;have:=hob k he.symm;omega))⟩
   have hxl:=HO1.out.2 x hx;exact meet1_of w.heap.size w1.heap.size w2.heap.size ax a3 cx c3 x l2 W hv (by omega) hvy (by have:=HO2.out.1;omega) (fun z hz=>by have:=HO2.out.2 z hz;omega) (Blk.same KY.out hg.size (hg.block _ KY.out.lt (fun he=>by have:=hob _ he.symm;omega)))))
 have hfe:=meet_filter l2 l1;have HOB:Hid (∀q,(Value.slice a1 l1.length c1).ownBlock=some q→w.heap.size≤q):=qq (fun q hq=>by
   obtain⟨vs,hr,_⟩:=HV1.out;have:=(hr.lt q hq).1;have:=HB0.out.size;omega)
 have HFE:=qq hfe;generalize hl1:l1.length=m1 at*;generalize hl2:l2.length=m2 at*;clear hv2 hb2 qk fk lk hba hfe he0 hl1 hl2;go_wp2_with fail;refine HD.out.mono ?_;rintro e w4 ⟨v4,rfl,hv4,hg4⟩;rw[HFE.out] at hv4;have HFF:=qq (HF.out v4 w4 hv4 ((below_then HB2.out HBA.out).grown hg4 (below_then HB2.out HBA.out).size (fun q hq=>HOB.out q hq)));obtain⟨a4,c4,rfl⟩:=hv4.row;clear hv4 hg4
 go_wp2_with fail
 (try go_ret)
 exact HFF.out
def AllowEnds (e:PE) (names:PAlt) (ea:Int→Addr) (w:World) (en:Ending) (w':World):Prop:=
 en=.returned (.tuple #[.bool (decide ((pNormal e).2=0) && (pNormal e).1.any fun x=>decide (x=pSet names)),errOf ea (pNormal e).2])∧Below w.heap.size w w'
end Go.Proofs.YtbepkpjcjpmpmaaGreatDoor
