/- PolP, AgP, PolY, ReA -/
import Derived.Test.YtbepkpjcjpmpmaaGreatDoorAQq
import GoSem.Claim
import Derived.Test.YtbepkpjcjpmpmaaGreatDoorAPolPToStepS
import Derived.Test.YtbepkpjcjpmpmaaGreatDoorRows
import Derived.WalkKit
import Derived.WalkSpells
import Derived.WalkLawsBesides
import Derived.BigQuiet
import Derived.Deep.QuietTactic
import Derived.StillTailTactics
import Derived.Handy
import Derived.Lib.Hide
import Derived.Test.YtbepkpjcjpmpmaaGreatDoorAPolHToPolS
import Derived.Test.YtbepkpjcjpmpmaaGreatDoorAPolQToPolF2
import Derived.Test.YtbepkpjcjpmpmaaGreatDoorAPolCToPolD
import Derived.Test.YtbepkpjcjpmpmaaGreatDoorAPolW
import Derived.Test.YtbepkpjcjpmpmaaGreatDoorAPolXToPolU
import Derived.Test.YtbepkpjcjpmpmaaGreatDoorADnFToPolT
set_option linter.unusedSimpArgs false
set_option linter.unusedVariables false
set_option maxRecDepth 100000
set_option maxHeartbeats 16000000
namespace Go.Proofs.YtbepkpjcjpmpmaaGreatDoor
theorem PF.at_len:∀(f:PF) (i:Nat) (e:PE),f.at i=some e→i<f.len
 | .nil,i,e,h=>by cases h
 | .cons o n b k r,0,e,h=>by simp[PF.len]
 | .cons o n b k r,i+1,e,h=>by have:=PF.at_len r i e h;simp[PF.len];omega
def PF.leafNm:PF→Prop
 | .nil=>True
 | .cons o n _ k r=>(o=1→isNm n=true)∧k.leafNm∧r.leafNm
theorem pCounts_leaf:∀(l:PF) (d m r:Nat),pCounts l d m=some r→l.leafNm
 | .nil,d,m,r,h=>True.intro
 | .cons o n b k t,d,m,r,h=>by
  unfold pCounts at h;split at h
  · cases h
  · rename_i hc
    obtain⟨q,h1,h2⟩:=Option.bind_eq_some_iff.1 h;refine⟨fun e=> ?_,pCounts_leaf k _ _ _ h1,pCounts_leaf t _ _ _ h2⟩;subst e
    cases hp:pOk 1 n b k with
    | false=>exact absurd (.inr (.inr hp)) hc
    | true=>
     unfold pOk at hp;rw[if_pos rfl] at hp;simp at hp;exact hp.1
open Go.RowKit Go.Shelf
theorem expr_all (g:Nat):ExprAt g:=by
 have h:∀n g,g≤n→ExprAt g:=by
  intro n
  induction n with
  | zero=>
   intro g hg s d rb ea w0 w h1;omega
  | succ n ih=>
   intro g hg;rcases Nat.lt_or_ge g (n+1) with h | h
   · exact ih g (by omega)
   · obtain rfl:g=n+1:=by omega
     exact expr_step n ih
 exact h g g (Nat.le_refl _)
def pPar (s:PStr):Option PE:=
 match rdGo (2*s.length+1) 0 s none with
 | some (.cons o n b k .nil,[])=>if pRight ⟨o,n,b,k⟩ then some ⟨o,n,b,k⟩ else none
 | _=>none
def pParse (s:PStr):PE×Int:=if 20000<s.length then(⟨0,[],false,.nil⟩,3) else match pPar s with | some e=>(e,0) | none=>(⟨0,[],false,.nil⟩,4)
theorem rd_small {g d:Nat} {s t:PStr} {o:Int} {n:PStr} {b:Bool} {k:PF} (hs:s.length≤20000) (h:rdGo g d s none=some (.cons o n b k .nil,t)):n.length≤100000∧k.len≤100000∧k.small:=by
 obtain⟨h1,h2,_,_⟩:=rd_ok 20000 g d s none _ _ hs h;have h3:k.sz+0+1+t.length≤s.length+1:=h1;have:=PF.len_sz k;exact⟨Nat.le_trans h2.1 (by omega),by omega,PF.small_of k 20000 20001 (by omega) (by omega) h2.2.1 (by omega)⟩
theorem pPar_some {Q : Option PE} {o : Int} {n : PStr} {b : Bool} {k : PF} {t : PStr} (h : Q = match (some (.cons o n b k .nil, t) : Option (PF × PStr)) with
    | some (.cons o n b k .nil,[])=>if pRight ⟨o,n,b,k⟩ then some ⟨o,n,b,k⟩ else none
    | _=>none):Q=if t.isEmpty then(if pRight ⟨o,n,b,k⟩ then some ⟨o,n,b,k⟩ else none) else none:=by
 rw[h]
 cases t<;>rfl
def Par1Ends (q:Option PE) (ea:Int→Addr) (w:World) (e:Ending) (w':World):Prop:=
 (∀x,q=some x→∃a c,e=.returned (.agg (exA x a c))∧KC w.heap.size w'.heap.size w' x.kids a∧Below w.heap.size w w')∧
 (q=none→e=.panicked [{v:=errV (ea 4),recovered:=false}]∧Below w.heap.size w w')
theorem parse1_of (s : PStr) (ea : Int → Addr) (p : Nat) (w : World) (hs : s.length ≤ 20000) (hE : Errs ea w) (hp : Blk w p #[.string ⟨s.toArray⟩]) :
    Calls Tryz.prog 39 #[.pointer (some ⟨p,0,none⟩)] w (Par1Ends (pPar s) ea w):=by
 have HYES:Hid (∀x a c w',pPar s=some x→KC w.heap.size w'.heap.size w' x.kids a→Below w.heap.size w w'→Par1Ends (pPar s) ea w (.returned (.agg (exA x a c))) w'):=qq (fun x a c w' h1 h2 h3=>⟨fun y hy=>(by rw[h1] at hy;injection hy with hy;subst hy;exact⟨a,c,rfl,h2,h3⟩),fun hn=>(by rw[h1] at hn;cases hn)⟩)
 have HNO:Hid (∀w',pPar s=none→Below w.heap.size w w'→Par1Ends (pPar s) ea w (.panicked [{v:=errV (ea 4),recovered:=false}]) w'):=qq (fun w' h1 h2=>⟨fun y hy=>(by rw[h1] at hy;cases hy),fun _=>⟨rfl,h2⟩⟩);have HQ:Hid (pPar s=match rdGo (2*s.length+1) 0 s none with
   | some (.cons o n b k .nil,[])=>if pRight ⟨o,n,b,k⟩ then some ⟨o,n,b,k⟩ else none
   | _=>none):=qq rfl
 generalize Par1Ends (pPar s) ea w=R at HYES HNO⊢;generalize pPar s=Q at*;have HEE:=qq hE;have HS:=qq hs;have HGE:Hid (∀W,Below w.heap.size w W→W.cell? ⟨0,0,none⟩=some (errV (ea 4))):=qq (fun W hW=>(hE.below hW).e4);have c0:w.cell? ⟨p,0,none⟩=some (.string ⟨s.toArray⟩):=hp.cell 0;have hlt:=hp.lt
 have HX:=qq (fun(W:World) (hW:Below w.heap.size w W) (h:RdB W (w.heap.size+1) s 0)=>expr_all (2*s.length+1) s 0 (w.heap.size+1) ea w W (by omega) hs (by omega) h hE (by omega) hW);have HRD:=qq (fun o n b k t h=>rd_small (g:=2*s.length+1) (d:=0) (s:=s) (t:=t) (o:=o) (n:=n) (b:=b) (k:=k) hs h);generalize hrd:rdGo (2*s.length+1) 0 s none=q at*
 have HOK:Hid (∀f t,q=some (f,t)→f.isOne):=qq (fun f t h=>(rd_ok 20000 _ 0 s none f t hs (hrd.trans h)).2.2.1);clear hs hE hp hrd;go_enter Tryz.func39,Tryz.ntmps39;go_wp2_with fail;refine(HX.out _ (by go_grown) (Blk.fresh _ _ _ _ (by simp))).mono ?_;rintro e w1 ⟨hyes,hno⟩
 cases q with
 | none=>
  obtain⟨rfl,_,hg⟩:=hno rfl;have hb:Below w.heap.size w w1:=gr_below (w:=(w.alloc (.cells exZ 27)).alloc (.cells #[.string ⟨s.toArray⟩,.int .i64 0] 85)) (by go_grown) hg (by omega);exact⟨rfl,HNO.out w1 HQ.out hb⟩
 | some r=>
  obtain⟨f,t⟩:=r;obtain⟨o,n,b,k,rfl⟩:∃o n b k,f=.cons o n b k .nil:=by
   have h1:=HOK.out f t rfl
   cases f with
   | nil=>exact h1.elim
   | cons o n b k r=>
    cases r with
    | nil=>exact⟨o,n,b,k,rfl⟩
    | cons=>exact h1.elim
  obtain⟨a2,c2,rfl,hkc,hrb,hg⟩:=hyes o n b k t rfl;obtain⟨hn1,hk1,hk2⟩:=HRD.out o n b k t rfl;have hb1:Below w.heap.size w w1:=gr_below (w:=(w.alloc (.cells exZ 27)).alloc (.cells #[.string ⟨s.toArray⟩,.int .i64 0] 85)) (by go_grown) hg (by omega);have hsz1:=hg.size;simp only[World.size_alloc] at hsz1 hkc
  have hT1:w1.heap[w.heap.size]? =some (.cells exZ 27 (0,0)):=(hg.block _ (by simp;omega) (fun e=>by injection e with e;omega)).trans (hp_al (hp_new _ rfl) _);have HK1:=qq hkc;have HB1:=qq hb1;have HT1:=qq hT1;have HRB:=qq hrb
  have HIN:Hid (∀W,Below w1.heap.size w1 W→ExIn w.heap.size W.heap.size ⟨o,n,b,k⟩ a2 ea W):=qq (fun W hW=>⟨hn1,hk1,hk2,(HK1.out.below (Nat.le_refl _) hW).keep (by omega) hW.size (fun _ _ _=>rfl),Nat.le_refl _,HEE.out.below (below_then HB1.out hW)⟩);have HQ2:=qq (pPar_some HQ.out);have hstr:=str_nil t
  have hstr2:((⟨t.toArray⟩:ByteArray).toList==[])=t.isEmpty:=by rw[ByteArray.toList_eq];cases t<;>simp
  clear hyes hno hn1 hk1 hk2 hkc hb1 hT1 hrb hg c0;obtain⟨nk,hnk⟩:∃z,z=k.len:=⟨_,rfl⟩
  rw[←hnk];have HNK:=qq hnk;clear hnk;go_wp2_with fail;generalize hW5:w1.alloc (.cells #[o,.string ⟨n.toArray⟩,.bool b,.slice a2 nk c2] 27)=w5;have hb5:Below w1.heap.size w1 w5:=by rw[←hW5];exact(Below.refl _ _).alloc (Nat.le_refl _) _
  have hk5:Blk w5 w1.heap.size #[o,.string ⟨n.toArray⟩,.bool b,.slice a2 nk c2]:=by rw[←hW5];exact Blk.fresh w1 _ _ _ rfl
  have HB5:=qq hb5;have HK5:=qq hk5;clear hW5 hb5 hk5;refine reg_start (fun w'=>Below w1.heap.size w1 w'∧Blk w' w1.heap.size #[o,.string ⟨n.toArray⟩,.bool b,.slice a2 nk c2]) (by kernel_rfl) ⟨bel_drew HB5.out,HK5.out.drew⟩ ?_;rintro w6 hHeld
  cases t with
  | cons tc tt=>
   have hstr3:((⟨(tc::tt).toArray⟩:ByteArray).toList==[])=false:=hstr2;have hstr4:((⟨(tc::tt).toArray⟩:ByteArray).toList==(⟨#[]⟩:ByteArray).toList)=false:=hstr;clear hstr hstr2;refine takeM (d:=some 9) 0 rfl rfl hHeld (fun w' hS'=>by clear hS';go_simp;(try rfl)) ?_;simp only[puts];refine takeM (d:=some 10) 1 rfl rfl hHeld (fun w' hS'=>by clear hS';go_simp;(try rfl)) ?_;simp only[puts]
   refine takeM (d:=some 11) 2 rfl rfl hHeld (fun w' hS'=>by clear hS';go_simp;(try rfl)) ?_;simp only[puts];refine takeM (d:=some 12) 3 rfl rfl hHeld (fun w' hS'=>by have qR:=(HRB.out.below hS'.1).cell;clear hS';go_simp;(try rfl)) ?_;simp only[puts];refine takeM (d:=some 13) 4 rfl rfl hHeld (fun w' hS'=>by clear hS';go_simp;(try rfl)) ?_;simp only[puts]
   refine takeM (d:=some 14) 5 rfl rfl hHeld (fun w' hS'=>by clear hS';go_simp;(try rfl)) ?_;simp only[puts];refine skipM (d:=some 15) 6 rfl rfl hHeld ?_;simp only[puts];refine skipM (d:=some 16) 7 rfl rfl hHeld ?_;simp only[puts];refine takeM (d:=some 17) 8 rfl rfl hHeld (fun w' hS'=>by clear hS';go_simp;(try rfl)) ?_;simp only[puts]
   refine takeM (d:=some 18) 9 rfl rfl hHeld (fun w' hS'=>by have qG:=HGE.out _ (below_then HB1.out hS'.1);clear hS';go_simp;(try rfl)) ?_;simp only[puts];refine one_M 10 (by kernel_rfl) ?_;refine wpOp_die [{v:=errV (ea 4),recovered:=false}] 10 41 _ _ [.bool false,errV (ea 4)] rfl rfl (enters_of Tryz.func41 (by kernel_rfl) rfl) (by rfl) (by rfl) ?_;refine(fail_no _ _).mono ?_;rintro e w8 ⟨rfl,rfl⟩
   exact⟨rfl,rfl,HNO.out _ (by rw[HQ2.out];rfl) (below_then HB1.out hHeld.1)⟩
  | nil=>
   have HRT:=qq (fun W (hW:Below w1.heap.size w1 W)=>right_of ⟨o,n,b,k⟩ a2 c2 w.heap.size W.heap.size ea W (HIN.out W hW));unfold exA at HRT;dsimp only at HRT;rw[←HNK.out] at HRT;clear hstr hstr2
   cases hr:pRight ⟨o,n,b,k⟩ with
   | false=>
    rw[hr] at HRT;have hqn:Q=none:=by rw[HQ2.out,hr];rfl
    refine takeM (d:=some 9) 0 rfl rfl hHeld (fun w' hS'=>by clear hS';go_simp;(try rfl)) ?_;simp only[puts];refine takeM (d:=some 10) 1 rfl rfl hHeld (fun w' hS'=>by clear hS';go_simp;(try rfl)) ?_;simp only[puts];refine takeM (d:=some 11) 2 rfl rfl hHeld (fun w' hS'=>by clear hS';go_simp;(try rfl)) ?_;simp only[puts]
    refine takeM (d:=some 12) 3 rfl rfl hHeld (fun w' hS'=>by have qR:=(HRB.out.below hS'.1).cell;clear hS';go_simp;(try rfl)) ?_;simp only[puts];refine takeM (d:=some 13) 4 rfl rfl hHeld (fun w' hS'=>by clear hS';go_simp;(try rfl)) ?_;simp only[puts];refine takeM (d:=some 14) 5 rfl rfl hHeld (fun w' hS'=>by clear hS';go_simp;(try rfl)) ?_;simp only[puts]
    refine takeM (d:=some 15) 6 rfl rfl hHeld (fun w' hS'=>by have qE:=hS'.2.cell;clear hS';go_simp;(try rfl)) ?_;simp only[puts];refine takeM (d:=some 18) 9 rfl rfl hHeld (fun w' hS'=>by have qG:=HGE.out _ (below_then HB1.out hS'.1);clear hS';go_simp;(try rfl)) ?_;simp only[puts];refine one_M 7 (by kernel_rfl) ?_
    refine wpOp_call (d:=some 16) 7 16 _ _ [.agg #[o,.string ⟨n.toArray⟩,.bool b,.slice a2 nk c2]] rfl rfl rfl (enters_of Tryz.func16 (by kernel_rfl) rfl) (by rfl) (by rfl) ?_;refine(HRT.out _ hHeld.1).mono ?_;rintro e w7 ⟨rfl,hb7⟩;refine ret_S ⟨below_then hHeld.1 hb7,hHeld.2.below hb7⟩ (fun hHeld=> ?_);simp only[puts]
    refine takeM (d:=some 17) 8 rfl rfl hHeld (fun w' hS'=>by clear hS';go_simp;(try rfl)) ?_;simp only[puts];refine one_M 10 (by kernel_rfl) ?_;refine wpOp_die [{v:=errV (ea 4),recovered:=false}] 10 41 _ _ [.bool false,errV (ea 4)] rfl rfl (enters_of Tryz.func41 (by kernel_rfl) rfl) (by rfl) (by rfl) ?_;refine(fail_no _ _).mono ?_;rintro e w8 ⟨rfl,rfl⟩
    exact⟨rfl,rfl,HNO.out _ hqn (below_then HB1.out hHeld.1)⟩
   | true=>
    rw[hr] at HRT;have hqs:Q=some ⟨o,n,b,k⟩:=by rw[HQ2.out,hr];rfl
    refine takeM (d:=some 9) 0 rfl rfl hHeld (fun w' hS'=>by clear hS';go_simp;(try rfl)) ?_;simp only[puts];refine takeM (d:=some 10) 1 rfl rfl hHeld (fun w' hS'=>by clear hS';go_simp;(try rfl)) ?_;simp only[puts];refine takeM (d:=some 11) 2 rfl rfl hHeld (fun w' hS'=>by clear hS';go_simp;(try rfl)) ?_;simp only[puts]
    refine takeM (d:=some 12) 3 rfl rfl hHeld (fun w' hS'=>by have qR:=(HRB.out.below hS'.1).cell;clear hS';go_simp;(try rfl)) ?_;simp only[puts];refine takeM (d:=some 13) 4 rfl rfl hHeld (fun w' hS'=>by clear hS';go_simp;(try rfl)) ?_;simp only[puts];refine takeM (d:=some 14) 5 rfl rfl hHeld (fun w' hS'=>by clear hS';go_simp;(try rfl)) ?_;simp only[puts]
    refine takeM (d:=some 15) 6 rfl rfl hHeld (fun w' hS'=>by have qE:=hS'.2.cell;clear hS';go_simp;(try rfl)) ?_;simp only[puts];refine takeM (d:=some 18) 9 rfl rfl hHeld (fun w' hS'=>by have qG:=HGE.out _ (below_then HB1.out hS'.1);clear hS';go_simp;(try rfl)) ?_;simp only[puts];refine one_M 7 (by kernel_rfl) ?_
    refine wpOp_call (d:=some 16) 7 16 _ _ [.agg #[o,.string ⟨n.toArray⟩,.bool b,.slice a2 nk c2]] rfl rfl rfl (enters_of Tryz.func16 (by kernel_rfl) rfl) (by rfl) (by rfl) ?_;refine(HRT.out _ hHeld.1).mono ?_;rintro e w7 ⟨rfl,hb7⟩;refine ret_S ⟨below_then hHeld.1 hb7,hHeld.2.below hb7⟩ (fun hHeld=> ?_);simp only[puts]
    refine takeM (d:=some 17) 8 rfl rfl hHeld (fun w' hS'=>by clear hS';go_simp;(try rfl)) ?_;simp only[puts];refine one_M 10 (by kernel_rfl) ?_;refine wpOp_call (d:=some 19) 10 41 _ _ [.bool true,errV (ea 4)] rfl rfl rfl (enters_of Tryz.func41 (by kernel_rfl) rfl) (by rfl) (by rfl) ?_;refine(fail_yes _ _).mono ?_;rintro e w8 ⟨rfl,rfl⟩;refine ret_S hHeld (fun hHeld=> ?_);simp only[puts]
    refine doneM (by kernel_rfl) ?_ _;have HFB:=qq hHeld.1;obtain⟨l8,q8,f8⟩:=hHeld.2;have HT8:=qq (hp_be HT1.out hHeld.1);have HF:=qq (HYES.out ⟨o,n,b,k⟩ a2 c2);clear hHeld hr;go_wp2_with (refine row_go 27 (.tmp 1) (.tmp 20) rfl rfl w.heap.size #[.int .i64 o,.string ⟨n.toArray⟩,.bool b,.slice a2 nk c2] exZ 27 HT8.out rfl rfl (by kernel_rfl) rfl (by simp[Value.oneCell']) ?_);intro w9 hb9 hg9
    have hz9:=hg9.size;have hbz:=HFB.out.size;have HEND:=qq (HF.out w9 hqs ((HK1.out.below (Nat.le_refl _) HFB.out).keep (by omega) (by omega) (fun j hj1 hj2=>hg9.block j (by omega) (fun e=>by injection e with e;omega))) (bel_gr (below_then HB1.out HFB.out) hg9 (by omega)));clear q8 f8;obtain⟨l9,q9,f9⟩:=hb9;unfold exA at HEND;dsimp only at HEND;rw[←HNK.out] at HEND;clear hqs;go_wp2_with fail
    exact bodyPost_ret (v:=.agg #[o,.string ⟨n.toArray⟩,.bool b,.slice a2 nk c2]) (by simp[results,Tryz.results39,go_sem,q9,f9]) rfl HEND.out
def rrGo:Nat→Nat→PStr→Option (Int×UInt8×UInt8×PF)→Option (PF×PStr)
 | 0,_,_,_=>none
 | g+1,d,s,none=>
  if 12<d then none else
  match s with
  | []=>none
  | c::t=>
   if c=40 then(match rHas 41 t with | some u=>some (.cons 2 [] false .nil .nil,u) | none=>rrGo g d t (some (2,38,41,.nil)))
   else if c=91 then(match rHas 93 t with | some u=>some (.cons 3 [] false .nil .nil,u) | none=>rrGo g d t (some (3,124,93,.nil)))
   else if isNm ((c::t).takeWhile isLet) then(match rHas 63 ((c::t).dropWhile isLet) with
     | some u=>some (.cons 1 ((c::t).takeWhile isLet) true .nil .nil,u)
     | none=>some (.cons 1 ((c::t).takeWhile isLet) false .nil .nil,(c::t).dropWhile isLet))
   else none
 | g+1,d,s,some (op,bt,en,acc)=>
  (rrGo g (d+1) s none).bind fun r=>match r with
   | (.cons o n b k _,x::u)=>if x=en then some (.cons op [] false (acc.snoc ⟨o,n,b,k⟩) .nil,u) else if x=bt then rrGo g d u (some (op,bt,en,acc.snoc ⟨o,n,b,k⟩)) else none
   | _=>none
theorem rHas_yes {c x:UInt8} {t:PStr} (h:x=c):rHas c (x::t)=some t:=if_pos h
theorem rHas_no {c x:UInt8} {t:PStr} (h:¬x=c):rHas c (x::t)=none:=if_neg h
theorem rd_leaf (g d:Nat) (s:PStr) (h:¬12<d+1) (h1:rHas 40 s=none) (h2:rHas 91 s=none):rdGo (g+1) d s none=some (match rHas 63 (s.dropWhile isLet) with | some t=>(.cons 1 (s.takeWhile isLet) true .nil .nil,t) | none=>(.cons 1 (s.takeWhile isLet) false .nil .nil,s.dropWhile isLet)):=by
 rw[rdGo,if_neg h,h1,h2];dsimp only
 cases rHas 63 (s.dropWhile isLet)<;>rfl
theorem rr_rd:∀(g d:Nat) (s:PStr),(∀r,rrGo g (d+1) s none=some r→rdGo g d s none=some r)∧∀op bt en acc f t,rrGo g d s (some (op,bt,en,acc))=some (f,t)→∃kids,rdGo g d s (some (bt,en,acc))=some (kids,t)∧f=.cons op [] false kids .nil
 | 0,d,s=>⟨fun r h=>(by rw[rrGo] at h;cases h),fun op bt en acc f t h=>(by rw[rrGo] at h;cases h)⟩
 | g+1,d,s=>by
  constructor
  · intro r h;rw[rrGo.eq_def] at h;dsimp only at h;by_cases hd:12<d+1
    · rw[if_pos hd] at h;cases h
    · rw[if_neg hd] at h
      cases s with
      | nil=>cases h
      | cons c t=>
       dsimp only at h;by_cases h1:c=40
       · rw[if_pos h1] at h;rw[rdGo_all g d _ t hd (rHas_yes h1)];unfold kidsQ
         cases hu:rHas 41 t with
         | some u=>rw[hu] at h;exact h
         | none=>
          rw[hu] at h;obtain⟨f,t2⟩:=r;obtain⟨kids,e1,e2⟩:=(rr_rd g (d+1) t).2 2 38 41 .nil f t2 h;dsimp only;rw[e1,e2];rfl
       · rw[if_neg h1] at h;by_cases h2:c=91
         · rw[if_pos h2] at h;rw[rdGo_one g d _ t hd (rHas_no h1) (rHas_yes h2)];unfold kidsQ
           cases hu:rHas 93 t with
           | some u=>rw[hu] at h;exact h
           | none=>
            rw[hu] at h;obtain⟨f,t2⟩:=r;obtain⟨kids,e1,e2⟩:=(rr_rd g (d+1) t).2 3 124 93 .nil f t2 h;dsimp only;rw[e1,e2];rfl
         · rw[if_neg h2] at h;rw[rd_leaf g d _ hd (rHas_no h1) (rHas_no h2)];split at h
           · cases hu:rHas 63 ((c::t).dropWhile isLet) with
             | some u=>rw[hu] at h;exact h
             | none=>rw[hu] at h;exact h
           · cases h
  · intro op bt en acc f t h;rw[rrGo] at h;obtain⟨r,hr,h⟩:=Option.bind_eq_some_iff.1 h;have hr2:=(rr_rd g d s).1 r hr;rw[rdGo,hr2];obtain⟨f1,t1⟩:=r;simp only[Option.bind_some]
    cases f1 with
    | nil=>cases h
    | cons o n b k x=>
     cases t1 with
     | nil=>cases h
     | cons y u=>
      dsimp only at h⊢;by_cases he:y=en
      · rw[if_pos he] at h;injection h with h
        injection h with h1 h2
        subst h1 h2;rw[rHas_yes he];exact⟨_,rfl,rfl⟩
      · rw[if_neg he] at h;by_cases hb:y=bt
        · rw[if_pos hb] at h;obtain⟨kids,e1,e2⟩:=(rr_rd g d u).2 op bt en _ f t h;rw[rHas_no he,rHas_yes hb];exact⟨kids,e1,e2⟩
        · rw[if_neg hb] at h;cases h
theorem rd_app:∀(g d:Nat) (s:PStr) (bt en:UInt8) (acc kids:PF) (t:PStr),rdGo g d s (some (bt,en,acc))=some (kids,t)→∃more,kids=acc.app more
 | 0,d,s,bt,en,acc,kids,t,h=>by rw[rdGo] at h;cases h
 | g+1,d,s,bt,en,acc,kids,t,h=>by
  rw[rdGo] at h;obtain⟨r,hr,h⟩:=Option.bind_eq_some_iff.1 h;obtain⟨f1,t1⟩:=r;dsimp only at h
  cases f1 with
  | nil=>cases h
  | cons o n b k x=>
   dsimp only at h;have hs:∀m,(acc.snoc ⟨o,n,b,k⟩).app m=acc.app (.cons o n b k m):=fun m=>(PF.app_cons acc o n b k m).symm
   cases he:rHas en t1 with
   | some u=>
    rw[he] at h;injection h with h
    injection h with h1 h2
    exact⟨.cons o n b k .nil,by rw[←hs,PF.app_nil,h1]⟩
   | none=>
    rw[he] at h;obtain⟨u,hu,h⟩:=Option.bind_eq_some_iff.1 h;obtain⟨more,hm⟩:=rd_app g d u bt en _ kids t h;exact⟨.cons o n b k more,by rw[hm,hs]⟩
theorem leafNm_app:∀(f h:PF),(f.app h).leafNm→f.leafNm∧h.leafNm
 | .nil,h,k=>⟨True.intro,k⟩
 | .cons o n b k r,h,q=>by
  obtain⟨h1,h2,h3⟩:=q;obtain⟨h4,h5⟩:=leafNm_app r h h3;exact⟨⟨h1,h2,h4⟩,h5⟩
theorem rd_rr:∀(g d:Nat) (s:PStr),(∀f t,rdGo g d s none=some (f,t)→f.leafNm→rrGo g (d+1) s none=some (f,t))∧∀op bt en acc kids t,rdGo g d s (some (bt,en,acc))=some (kids,t)→kids.leafNm→rrGo g d s (some (op,bt,en,acc))=some (.cons op [] false kids .nil,t)
 | 0,d,s=>⟨fun f t h=>(by rw[rdGo] at h;cases h),fun op bt en acc f t h=>(by rw[rdGo] at h;cases h)⟩
 | g+1,d,s=>by
  constructor
  · intro f t h hl;by_cases hd:12<d+1
    · rw[rdGo_deep g d s hd] at h;cases h
    · cases s with
      | nil=>
       rw[rd_leaf g d [] hd rfl rfl] at h;injection h with h
       injection h with h1 h2
       subst h1;have:=hl.1 rfl;simp[isNm] at this
      | cons c u=>
       rw[rrGo,if_neg hd]
       (try dsimp only)
       by_cases h1:c=40
       · rw[rdGo_all g d _ u hd (rHas_yes h1)] at h;rw[if_pos h1];unfold kidsQ at h
         cases hu:rHas 41 u with
         | some v=>rw[hu] at h;exact h
         | none=>
          rw[hu] at h;obtain⟨r,hr,he⟩:=Option.map_eq_some_iff.1 h;injection he with he1 he2
          subst he1;dsimp only;obtain⟨r1,r2⟩:=r;dsimp only at he2 hl;subst he2;exact(rd_rr g (d+1) u).2 2 38 41 .nil r1 r2 hr hl.2.1
       · rw[if_neg h1];by_cases h2:c=91
         · rw[rdGo_one g d _ u hd (rHas_no h1) (rHas_yes h2)] at h;rw[if_pos h2];unfold kidsQ at h
           cases hu:rHas 93 u with
           | some v=>rw[hu] at h;exact h
           | none=>
            rw[hu] at h;obtain⟨r,hr,he⟩:=Option.map_eq_some_iff.1 h;injection he with he1 he2
            subst he1;dsimp only;obtain⟨r1,r2⟩:=r;dsimp only at he2 hl;subst he2;exact(rd_rr g (d+1) u).2 3 124 93 .nil r1 r2 hr hl.2.1
         · rw[rd_leaf g d _ hd (rHas_no h1) (rHas_no h2)] at h;rw[if_neg h2];injection h with h
           cases hu:rHas 63 ((c::u).dropWhile isLet) with
           | some v=>
            rw[hu] at h;injection h with e1 e2
            subst e1;rw[if_pos (hl.1 rfl),←e2]
           | none=>
            rw[hu] at h;injection h with e1 e2
            subst e1;rw[if_pos (hl.1 rfl),←e2]
  · intro op bt en acc kids t h hl;obtain⟨more,hm⟩:=rd_app _ _ _ _ _ _ _ _ h;rw[rdGo] at h;obtain⟨r,hr,h⟩:=Option.bind_eq_some_iff.1 h;obtain⟨f1,t1⟩:=r;dsimp only at h;have hone:=(rd_ok s.length g d s none f1 t1 (Nat.le_refl _) hr).2.2.1
    cases f1 with
    | nil=>cases h
    | cons o n b k x=>
     cases x with
     | cons=>exact hone.elim
     | nil=>
      dsimp only at h;have hsn:(acc.snoc ⟨o,n,b,k⟩).leafNm→(PF.cons o n b k .nil).leafNm:=fun q=>by
       have e:acc.snoc ⟨o,n,b,k⟩=acc.app (.cons o n b k .nil):=by rw[PF.app_cons,PF.app_nil]
       rw[e] at q;exact(leafNm_app _ _ q).2
      rw[rrGo]
      cases he:rHas en t1 with
      | some u=>
       rw[he] at h;injection h with h
       injection h with h1 h2
       rw[←h1] at hl;rw[(rd_rr g d s).1 _ _ hr (hsn hl)];simp only[Option.bind_some]
       cases t1 with
       | nil=>cases he
       | cons y u2=>
        simp only[rHas] at he;split at he
        · rename_i hy
          injection he with he
          dsimp only;rw[if_pos hy,h1,he,h2]
        · cases he
      | none=>
       rw[he] at h;obtain⟨u,hu,h⟩:=Option.bind_eq_some_iff.1 h;obtain⟨more2,hm2⟩:=rd_app _ _ _ _ _ _ _ _ h;have hl2:(acc.snoc ⟨o,n,b,k⟩).leafNm:=by rw[hm2] at hl;exact(leafNm_app _ _ hl).1
       rw[(rd_rr g d s).1 _ _ hr (hsn hl2)];simp only[Option.bind_some]
       cases t1 with
       | nil=>cases hu
       | cons y u2=>
        simp only[rHas] at he hu;split at hu
        · rename_i hy
          injection hu with hu
          subst hu;split at he
          · cases he
          · rename_i hy2
            dsimp only;rw[if_neg hy2,if_pos hy];exact(rd_rr g d u2).2 op bt en _ kids t h hl
        · cases hu
theorem rHas_suf {c:UInt8} {s t:PStr} (h:rHas c s=some t):t<:+s:=by
 cases s with
 | nil=>cases h
 | cons x y=>
  simp only[rHas] at h;split at h
  · injection h with h
    subst h;exact List.suffix_cons _ _
  · cases h
theorem rr_suf:∀(g d:Nat) (s:PStr) (x:Option (Int×UInt8×UInt8×PF)) (f:PF) (t:PStr),rrGo g d s x=some (f,t)→t<:+s
 | 0,d,s,x,f,t,h=>by rw[rrGo] at h;cases h
 | g+1,d,s,none,f,t,h=>by
  rw[rrGo.eq_def] at h;dsimp only at h;split at h
  · cases h
  · cases s with
    | nil=>cases h
    | cons c u=>
     dsimp only at h;have two:∀(en:UInt8) (op:Int) bt,(match rHas en u with | some v=>(some (PF.cons op [] false .nil .nil,v):Option (PF×PStr)) | none=>rrGo g d u (some (op,bt,en,.nil)))=some (f,t)→t<:+c::u:=fun en op bt hh=>by
      cases hu:rHas en u with
      | some v=>
       rw[hu] at hh;injection hh with hh
       injection hh with _ hh
       subst hh;exact(rHas_suf hu).trans (List.suffix_cons _ _)
      | none=>
       rw[hu] at hh;exact(rr_suf g d u _ f t hh).trans (List.suffix_cons _ _)
     split at h
     · exact two _ _ _ h
     · split at h
       · exact two _ _ _ h
       · split at h
         · cases hu:rHas 63 ((c::u).dropWhile isLet) with
           | some v=>
            rw[hu] at h;injection h with h
            injection h with _ h
            subst h;exact(rHas_suf hu).trans (List.dropWhile_suffix _)
           | none=>
            rw[hu] at h;injection h with h
            injection h with _ h
            subst h;exact List.dropWhile_suffix _
         · cases h
 | g+1,d,s,some (op,bt,en,acc),f,t,h=>by
  rw[rrGo] at h;obtain⟨r,hr,h⟩:=Option.bind_eq_some_iff.1 h;obtain⟨f1,t1⟩:=r;have h1:=rr_suf g (d+1) s none f1 t1 hr
  cases f1 with
  | nil=>cases h
  | cons o n b k x=>
   cases t1 with
   | nil=>cases h
   | cons y u=>
    dsimp only at h;have h2:u<:+s:=(List.suffix_cons _ _).trans h1;split at h
    · injection h with h
      injection h with _ h
      subst h;exact h2
    · split at h
      · exact(rr_suf g d u _ f t h).trans h2
      · cases h
theorem rr_one {g d:Nat} {s:PStr} {f:PF} {t:PStr} (h:rrGo g (d+1) s none=some (f,t)):∃o n b k,f=.cons o n b k .nil:=by
 have h1:=(rd_ok s.length g d s none f t (Nat.le_refl _) ((rr_rd g d s).1 _ h)).2.2.1
 cases f with
 | nil=>exact h1.elim
 | cons o n b k r=>
  cases r with
  | nil=>exact⟨o,n,b,k,rfl⟩
  | cons=>exact h1.elim
theorem rr_small {g d:Nat} {s t:PStr} {o:Int} {n:PStr} {b:Bool} {k:PF} (hs:s.length≤20000) (h:rrGo g (d+1) s none=some (.cons o n b k .nil,t)):n.length≤100000∧k.len≤100000∧k.small:=rd_small hs ((rr_rd g d s).1 _ h)
def rPar (s:PStr):Option PE:=
 match rrGo (2*s.length+1) 1 s none with
 | some (.cons o n b k .nil,[])=>if rSize ⟨o,n,b,k⟩ 1≤200 then some ⟨o,n,b,k⟩ else none
 | _=>none
theorem rPar_pPar (s:PStr):rPar s=pPar s:=by
 unfold rPar pPar
 cases hd:rdGo (2*s.length+1) 0 s none with
 | none=>
  cases hr:rrGo (2*s.length+1) 1 s none with
  | none=>rfl
  | some r=>have:=(rr_rd _ 0 s).1 r hr;rw[hd] at this;cases this
 | some q=>
  obtain⟨f,t⟩:=q;have hone:=(rd_ok s.length _ 0 s none f t (Nat.le_refl _) hd).2.2.1;obtain⟨o,n,b,k,rfl⟩:∃o n b k,f=.cons o n b k .nil:=by
   cases f with
   | nil=>exact hone.elim
   | cons o n b k r=>
    cases r with
    | nil=>exact⟨o,n,b,k,rfl⟩
    | cons=>exact hone.elim
  cases hr:rrGo (2*s.length+1) 1 s none with
  | some r=>
   have:=(rr_rd _ 0 s).1 r hr;rw[hd] at this;injection this with this
   subst this
   cases t with
   | nil=>dsimp only;rw[right_size];by_cases h:rSize ⟨o,n,b,k⟩ 1≤200<;>simp[h]
   | cons=>rfl
  | none=>
   cases t with
   | cons=>rfl
   | nil=>
    dsimp only;by_cases hp:pRight ⟨o,n,b,k⟩=true
    · have hl:(PF.cons o n b k .nil).leafNm:=by
       unfold pRight at hp;obtain⟨r,hp⟩:=Option.isSome_iff_exists.1 hp;exact pCounts_leaf _ _ _ _ hp
      have:=(rd_rr _ 0 s).1 _ _ hd hl;rw[hr] at this
      cases this
    · rw[if_neg hp]
end Go.Proofs.YtbepkpjcjpmpmaaGreatDoor
