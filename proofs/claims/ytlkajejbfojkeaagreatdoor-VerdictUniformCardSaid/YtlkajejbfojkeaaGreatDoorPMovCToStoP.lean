/- MovC, MovR, Float, FlA, FlB, Told, ToldB, TrcP, Step, StepS, IdsA, StoP -/
import Derived.Test.YtlkajejbfojkeaaGreatDoorPTabPlainToMovB
import Ieee.Arith
import Derived.Laws.Externs
import Derived.Laws.Cover2
import Derived.Lib.SplitLaws
import Derived.Lib.ItoaNum
import Derived.Lib.Strings
import Derived.Deep.RegionLaw
import Derived.Shelf.Abstract
import Derived.Recover
import Derived.Defers
import Derived.Shelf.Lay
import Derived.Shelf.Strconv.Itoa3
import Derived.Deep.RegionWith
set_option linter.unusedSimpArgs false
set_option linter.unusedVariables false
set_option maxRecDepth 100000
set_option maxHeartbeats 16000000
namespace Go.Proofs.YtlkajejbfojkeaaGreatDoor
open Go.RowKit
theorem do_of (x:MSeat) (k:Int) (ea:Int→Addr) (w:World) (h:Err3 ea w) (h9:ErrIs w 8 (ea 9)):Calls Tryz.prog 143 #[seatV x,.int .i64 k] w (Makes (.tuple #[effV (mDo x k).1,errOf ea (mDo x k).2]) w):=by
 have k0:w.cell? ⟨3,0,none⟩=some (errV (ea 4)):=h.e4;have hg0:3<w.heap.size:=World.block_lt_of_cell? _ _ k0;clear k0;have H:=qq h;clear h;have H9:=qq h9;clear h9;obtain⟨r,hr⟩:∃r,r=mRight x:=⟨_,rfl⟩
 have hR:∀W,Err3 ea W→Calls Tryz.prog 169 #[seatV x] W (Makes (.bool r) W):=fun W hw=>by
  have:=right_of x ea W hw;rw[←hr] at this;exact this
 obtain⟨s,n,hs⟩:∃s n,rStep x.p x.d k x.s=(s,n):=⟨_,_,rfl⟩
 have hS:∀W,Err3 ea W→ErrIs W 8 (ea 9)→Calls Tryz.prog 227 #[.int .i64 x.p,.int .i64 x.d,.int .i64 k,.int .i64 x.s] W (Makes (.tuple #[.int .i64 s,errOf ea n]) W):=fun W hw h9=>by
  have:=step_any x.p x.d k x.s ea W hw h9;rw[hs] at this;exact this
 have he:mDo x k=if r=false then(eff0,4) else if n≠0 then(eff0,n) else(mChanged (mWent x s k) k,0):=by
  unfold mDo;rw[←hr,hs]
 rw[he];clear he hr hs;have hw:=fun W=>went_of x s k W
 obtain⟨y,hy⟩:∃y,y=mWent x s k:=⟨_,rfl⟩
 rw[←hy] at hw⊢;have hch:=fun W hW=>changed_of y k ea W hW
 obtain⟨e,he⟩:∃e,e=mChanged y k:=⟨_,rfl⟩
 simp only[←he] at hch⊢;clear he hy;obtain⟨p,d,s0,h4⟩:=x;dsimp only[seatV,effV] at*;have HR:=qq hR;have HS:=qq hS;have HW:=qq hw;have HC:=qq hch;clear hR hS hw hch
 cases r with
 | false=>
  rw[if_pos rfl];dsimp only[eff0,seat0];rw[show errOf ea 4=errV (ea 4) from rfl];go_enter Tryz.func143,Tryz.ntmps143;go_wp2_with (first
  | (go_at_call 169;refine(HR.out _ (H.out.below (by go_grown))).mono ?_;rintro e w1 ⟨rfl,hb1⟩;have HA1:=qq (((Blk.fresh w _ _ _ rfl).alloc _).below hb1);have HO1:=qq ((Blk.fresh _ _ _ (w.heap.size+1) (by simp only[World.size_alloc])).below hb1);obtain⟨q1,f1⟩:=HA1.out.out;obtain⟨q2,f2⟩:=HO1.out.out;have r1:=fun o=>(HA1.out.alloc o).cell;have hz1:=hb1.size;simp only[World.size_alloc] at hz1;have B1:Below w.heap.size w w1:=below_then (by go_grown) hb1;have k4:w1.cell? ⟨3,0,none⟩=some (errV (ea 4)):=(H.out.below B1).e4)
  | fail)
  go_region
  all_goals go_wp2
  all_goals exact bodyPost_ret (v:=.tuple #[.agg #[.int .i64 0,.int .i64 0,.int .i64 0,.int .i64 0,.int .i64 0,.int .i64 0,.int .i64 0,.bool false],errV (ea 4)]) (by simp[results,Tryz.results143,go_sem,q2,f2]) rfl ⟨rfl,by go_grown⟩
 | true=>
  rw[if_neg (by simp)];by_cases hn:n=0
  · subst hn;rw[if_neg (by simp)];simp only[errOf,if_true] at HS⊢;go_enter Tryz.func143,Tryz.ntmps143;go_wp2_with (first
  | (go_at_call 169;refine(HR.out _ (H.out.below (by go_grown))).mono ?_;rintro e w1 ⟨rfl,hb1⟩;have HA1:=qq (((Blk.fresh w _ _ _ rfl).alloc _).below hb1);have HO1:=qq ((Blk.fresh _ _ _ (w.heap.size+1) (by simp only[World.size_alloc])).below hb1);obtain⟨q1,f1⟩:=HA1.out.out;obtain⟨q2,f2⟩:=HO1.out.out;have r1:=fun o=>(HA1.out.alloc o).cell;have hz1:=hb1.size;simp only[World.size_alloc] at hz1;have B1:Below w.heap.size w w1:=below_then (by go_grown) hb1;have k4:w1.cell? ⟨3,0,none⟩=some (errV (ea 4)):=(H.out.below B1).e4)
  | (go_at_call 227;refine(HS.out _ (H.out.below B1) (H9.out.below B1)).mono ?_;rintro e w2 ⟨rfl,hb2⟩;have HO2:=qq (HO1.out.below hb2);have HA2:=qq (HA1.out.below hb2);clear q1 f1 q2 f2;obtain⟨q1,f1⟩:=HA2.out.out;have hz2:=hb2.size;have B2:Below w.heap.size w w2:=below_then B1 hb2) | (go_at_call 229;refine(HW.out _).mono ?_;rintro e w3 ⟨rfl,hb3⟩;have HO3:=qq (HO2.out.below hb3);have hz3:=hb3.size;have B3:Below w.heap.size w w3:=below_then B2 hb3) | (go_at_call 228;refine(HC.out _ (H.out.below B3)).mono ?_;rintro e w4 ⟨rfl,hb4⟩;clear q1 f1;obtain⟨q2,f2⟩:=(HO3.out.below hb4).out;have hz4:=hb4.size;have B4:Below w.heap.size w w4:=below_then B3 hb4))
    exact bodyPost_ret (v:=.tuple #[.agg #[e.seat.p,e.seat.d,e.seat.s,e.seat.h,e.send,e.fault,e.work,.bool e.ch],.nilIface]) (by simp[results,Tryz.results143,go_sem,q2,f2]) rfl ⟨rfl,by go_grown⟩
  · rw[if_pos hn];dsimp only[eff0,seat0];simp only[errOf,if_neg hn] at HS⊢;go_enter Tryz.func143,Tryz.ntmps143;go_wp2_with (first
  | (go_at_call 169;refine(HR.out _ (H.out.below (by go_grown))).mono ?_;rintro e w1 ⟨rfl,hb1⟩;have HA1:=qq (((Blk.fresh w _ _ _ rfl).alloc _).below hb1);have HO1:=qq ((Blk.fresh _ _ _ (w.heap.size+1) (by simp only[World.size_alloc])).below hb1);obtain⟨q1,f1⟩:=HA1.out.out;obtain⟨q2,f2⟩:=HO1.out.out;have r1:=fun o=>(HA1.out.alloc o).cell;have hz1:=hb1.size;simp only[World.size_alloc] at hz1;have B1:Below w.heap.size w w1:=below_then (by go_grown) hb1;have k4:w1.cell? ⟨3,0,none⟩=some (errV (ea 4)):=(H.out.below B1).e4)
  | (go_at_call 227;refine(HS.out _ (H.out.below B1) (H9.out.below B1)).mono ?_;rintro e w2 ⟨rfl,hb2⟩;have HO2:=qq (HO1.out.below hb2);clear q1 f1 q2 f2;obtain⟨q2,f2⟩:=HO2.out.out;have hz2:=hb2.size;have B2:Below w.heap.size w w2:=below_then B1 hb2))
    exact bodyPost_ret (v:=.tuple #[.agg #[.int .i64 0,.int .i64 0,.int .i64 0,.int .i64 0,.int .i64 0,.int .i64 0,.int .i64 0,.bool false],errV (ea n)]) (by simp[results,Tryz.results143,go_sem,q2,f2]) rfl ⟨rfl,by go_grown⟩
def gWork (x:MSeat):Int:=if x.d=2 then wk x.s else 0
def gMoved (x:MSeat) (s how send:Int):Eff:=⟨⟨x.p,x.d,s,if s=14 then how else x.h⟩,send,0,gWork ⟨x.p,x.d,s,if s=14 then how else x.h⟩,true⟩
def gHow (k z:Int):Int:=if k=12 then 4 else if k=13 then 1 else if k=14 then 5 else z
def gGo (x:MSeat) (k n:Int):Eff:=
 if x.d=1 then(if n=13 then gMoved x 14 1 13 else if n=12 then gMoved x 14 5 14 else if 8≤n∧n≤11 then gMoved x 14 4 12 else gMoved x n k 0)
 else gMoved x n (gHow k 0) 0
def gTell (x:MSeat) (k:Int):Eff×Int:=
 if mRight x=false then(eff0,4) else if(rLook x.p x.d k x.s).2≠0 then(⟨x,0,2,0,false⟩,0)
 else if(rLook x.p x.d k x.s).1.1=2 then(⟨x,0,0,0,false⟩,0) else if(rLook x.p x.d k x.s).1.1=3 then(⟨x,(rLook x.p x.d k x.s).1.2.2,0,0,false⟩,0)
 else if(rLook x.p x.d k x.s).1.1=4 then(⟨x,0,1,0,false⟩,0) else(gGo x k (rLook x.p x.d k x.s).1.2.1,0)
def gDo (x:MSeat) (k:Int):Eff×Int:=
 if mRight x=false then(eff0,4) else if(rStep x.p x.d k x.s).2≠0 then(eff0,(rStep x.p x.d k x.s).2)
 else(gMoved x (rStep x.p x.d k x.s).1 (gHow k k) k,0)
theorem right_eq (x:MSeat):mRight x=(decide (1≤x.p∧x.p≤2∧1≤x.d∧x.d≤2) && rHas x.p x.d x.s && (if x.s=14 then decide (x.h=1∨4≤x.h∧x.h≤8) else decide (x.h=0))):=by
 unfold mRight rWait rSide;have hc:[1,4,5,6,7,8].contains x.h=decide (x.h=1∨4≤x.h∧x.h≤8):=by
  rw[Bool.eq_iff_iff];simp;omega
 rw[hc];by_cases h1:1≤x.p∧x.p≤2∧1≤x.d∧x.d≤2
 · simp only[h1,decide_true]
   cases rHas x.p x.d x.s<;>simp
 · simp only[h1,decide_false];simp
theorem gright_of (x:MSeat) (w:World):Calls Tryz.prog 201 #[seatV x] w (Makes (.bool (mRight x)) w):=by
 rw[right_eq];obtain⟨p,d,s,h⟩:=x;dsimp only[seatV];obtain⟨hs,hhs⟩:∃hs,hs=rHas p d s:=⟨_,rfl⟩
 have hH:∀W,Calls Tryz.prog 257 #[.int .i64 p,.int .i64 d,.int .i64 s] W (Gives (.bool hs) W):=fun W=>by rw[hhs];exact rhas_any p d s W
 rw[←hhs];have HH:=qq hH;clear hH hhs;by_cases h1:p<1
 · rw[show decide (1≤p∧p≤2∧1≤d∧d≤2)=false by simp;omega,Bool.false_and,Bool.false_and];go_enter Tryz.func201,Tryz.ntmps201;go_wp2_with fail;go_ret;exact⟨ret_bool (by simp),by go_grown⟩
 by_cases h2:2<p
 · rw[show decide (1≤p∧p≤2∧1≤d∧d≤2)=false by simp;omega,Bool.false_and,Bool.false_and];go_enter Tryz.func201,Tryz.ntmps201;go_wp2_with fail;go_ret;exact⟨ret_bool (by simp),by go_grown⟩
 by_cases h3:d<1
 · rw[show decide (1≤p∧p≤2∧1≤d∧d≤2)=false by simp;omega,Bool.false_and,Bool.false_and];go_enter Tryz.func201,Tryz.ntmps201;go_wp2_with fail;go_ret;exact⟨ret_bool (by simp),by go_grown⟩
 by_cases h4:2<d
 · rw[show decide (1≤p∧p≤2∧1≤d∧d≤2)=false by simp;omega,Bool.false_and,Bool.false_and];go_enter Tryz.func201,Tryz.ntmps201;go_wp2_with fail;go_ret;exact⟨ret_bool (by simp),by go_grown⟩
 rw[show decide (1≤p∧p≤2∧1≤d∧d≤2)=true by simp;omega]
 cases hs with
 | false=>
  rw[Bool.true_and,Bool.false_and];go_enter Tryz.func201,Tryz.ntmps201;go_wp2_with (go_at_call 257;refine(HH.out _).mono ?_;rintro e w1 ⟨rfl,rfl⟩);go_ret;exact⟨ret_bool (by simp),by go_grown⟩
 | true=>
  rw[Bool.true_and,Bool.true_and];obtain⟨v,hv⟩:∃v,v=(if s=14 then decide (h=1∨4≤h∧h≤8) else decide (h=0)):=⟨_,rfl⟩
  rw[←hv];have HV:=qq hv;clear hv;go_enter Tryz.func201,Tryz.ntmps201;go_wp2_with (go_at_call 257;refine(HH.out _).mono ?_;rintro e w1 ⟨rfl,rfl⟩)
  all_goals (go_ret;refine⟨ret_bool ?_,by go_grown⟩;rw[HV.out];(try simp only[beq_iff_eq,beq_eq_false_iff_ne,ne_eq] at *);(try simp[*]);first | done | (rw[Bool.eq_iff_iff];simp;done) | (rw[Bool.eq_iff_iff];simp;omega) | omega)
theorem gwork_of (x:MSeat) (w:World):Calls Tryz.prog 280 #[seatV x] w fun e w'=>e=.returned (.int .i64 (gWork x))∧w'=w.alloc (.cells #[x.p,x.d,x.s,x.h] 164):=by
 obtain⟨p,d,s,h⟩:=x;dsimp only[seatV];obtain⟨v,hv⟩:∃v,v=gWork ⟨p,d,s,h⟩:=⟨_,rfl⟩
 rw[←hv];have HV:=qq hv;clear hv;go_enter Tryz.func280,Tryz.ntmps280;go_wp2
 all_goals (go_ret;refine⟨ret_int ?_,(by first | rfl | (simp only[beq_iff_eq] at *;subst_vars;rfl) | simp[*])⟩;rw[HV.out];simp only[beq_iff_eq,beq_eq_false_iff_ne,ne_eq] at *;simp[gWork,wk, *])
theorem gmoved_of (x:MSeat) (s how send:Int) (w:World):Calls Tryz.prog 231 #[seatV x,.int .i64 s,.int .i64 how,.int .i64 send] w (Makes (effV (gMoved x s how send)) w):=by
 obtain⟨p,d,s0,h0⟩:=x;unfold gMoved;dsimp only[seatV,effV];obtain⟨h,hh⟩:∃h,h=(if s=14 then how else h0):=⟨_,rfl⟩
 rw[←hh];have hW:=fun W=>gwork_of ⟨p,d,s,h⟩ W
 obtain⟨g,hg⟩:∃g,g=gWork ⟨p,d,s,h⟩:=⟨_,rfl⟩
 rw[←hg] at hW⊢;dsimp only[seatV] at hW;clear hg;by_cases hs:s=14
 · subst hs;rw[if_pos rfl] at hh;subst hh;have HW:=qq hW;clear hW;go_enter Tryz.func231,Tryz.ntmps231;go_wp2;go_region_held3 (fun w'=>w'.cell? ⟨w.heap.size,0,none⟩=some (.int .i64 p)∧w'.cell? ⟨w.heap.size,1,none⟩=some (.int .i64 d)∧w'.cell? ⟨w.heap.size,2,none⟩=some (.int .i64 14)∧w'.cell? ⟨w.heap.size,3,none⟩=some (.int .i64 h)) (first | go_keep | ((repeat' apply And.intro)<;>go_keep)) (first
     | (go_at_call 280;refine(HW.out _).mono ?_;rintro e w1 ⟨rfl,rfl⟩))
   go_wp2;exact bodyPost_ret (v:=.agg #[p,d,.int .i64 14,h,send,.int .i64 0,g,.bool true]) (by simp[results,Tryz.results231,go_sem]) rfl ⟨rfl,by go_grown⟩
 · rw[if_neg hs] at hh;subst hh;have hs':(s==14)=false:=by simpa using hs
   have HW:=qq hW;clear hW;go_enter Tryz.func231,Tryz.ntmps231;go_wp2;go_region_held3 (fun w'=>w'.cell? ⟨w.heap.size,0,none⟩=some (.int .i64 p)∧w'.cell? ⟨w.heap.size,1,none⟩=some (.int .i64 d)∧w'.cell? ⟨w.heap.size,2,none⟩=some (.int .i64 s)∧w'.cell? ⟨w.heap.size,3,none⟩=some (.int .i64 h)) (first | go_keep | ((repeat' apply And.intro)<;>go_keep)) (first
     | (go_at_call 280;refine(HW.out _).mono ?_;rintro e w1 ⟨rfl,rfl⟩))
   go_wp2;exact bodyPost_ret (v:=.agg #[p,d,s,h,send,.int .i64 0,g,.bool true]) (by simp[results,Tryz.results231,go_sem]) rfl ⟨rfl,by go_grown⟩
open Ieee
def fnan (x:Nat):Bool:=decide (9218868437227405312<x % 9223372036854775808)
def fkey (x:Nat):Int:=if x<9223372036854775808 then(x:Int) else -((x:Int) - 9223372036854775808)
def fval (r:Nat):Nat:=if r<4503599627370496 then r else(4503599627370496+r % 4503599627370496)*2 ^ (r / 4503599627370496 - 1)
theorem fval_lt {r s:Nat} (h:r<s):fval r<fval s:=by
 unfold fval;by_cases h1:s<4503599627370496
 · rw[if_pos h1,if_pos (by omega)];exact h
 rw[if_neg h1];have hp:0<2 ^ (s / 4503599627370496 - 1):=Nat.two_pow_pos _;by_cases h2:r<4503599627370496
 · rw[if_pos h2]
   calc r<4503599627370496+s % 4503599627370496:=by omega
    _≤_:=Nat.le_mul_of_pos_right _ hp
 rw[if_neg h2];by_cases h3:r / 4503599627370496=s / 4503599627370496
 · rw[h3];exact Nat.mul_lt_mul_of_pos_right (by omega) hp
 · have h4:r / 4503599627370496<s / 4503599627370496:=by omega
   obtain⟨a,ha⟩:∃a,r / 4503599627370496=a+1:=⟨r / 4503599627370496 - 1,by omega⟩
   obtain⟨c,hc⟩:∃c,s / 4503599627370496=a+1+1+c:=⟨s / 4503599627370496 - (a+1) - 1,by omega⟩
   rw[ha,hc,show a+1 - 1=a by omega,show a+1+1+c - 1=a+1+c by omega,Nat.pow_add,Nat.pow_succ];have h5:0<2 ^ a:=Nat.two_pow_pos _;have h6:0<2 ^ c:=Nat.two_pow_pos _
   calc (4503599627370496+r % 4503599627370496)*2 ^ a<(4503599627370496*2)*2 ^ a:=Nat.mul_lt_mul_of_pos_right (by omega) h5
    _=4503599627370496*(2 ^ a*2):=by rw[Nat.mul_assoc,Nat.mul_comm 2]
    _≤4503599627370496*(2 ^ a*2*2 ^ c):=Nat.mul_le_mul_left _ (Nat.le_mul_of_pos_right _ h6)
    _≤_:=Nat.mul_le_mul_right _ (by omega)
theorem fval_zero:fval 0=0:=by decide
theorem read_num (x : Nat) (h : x % 9223372036854775808 < 9218868437227405312) :
    ∃(m i:Nat),double.read x=.number (x / 9223372036854775808 % 2==1) m (double.leastPlace+(i:Int))∧m*2 ^ i=fval (x % 9223372036854775808):=by
 have e1:double.signWeight=9223372036854775808:=by decide
 have e2:double.binade=4503599627370496:=by decide
 have e3:double.infRung=9218868437227405312:=by decide
 unfold Format.read;simp only[e1,e2,e3];by_cases h1:x % 9223372036854775808<4503599627370496
 · rw[if_pos h1];exact⟨x % 9223372036854775808,0,by simp,by unfold fval;rw[if_pos h1];simp⟩
 · rw[if_neg h1,if_pos h];exact⟨_,_,rfl,by unfold fval;rw[if_neg h1]⟩
theorem read_inf (x:Nat) (h:x % 9223372036854775808=9218868437227405312):double.read x=.infinity (x / 9223372036854775808 % 2==1):=by
 have e1:double.signWeight=9223372036854775808:=by decide
 have e2:double.binade=4503599627370496:=by decide
 have e3:double.infRung=9218868437227405312:=by decide
 unfold Format.read;simp only[e1,e2,e3];rw[if_neg (by omega),if_neg (by omega),if_pos h]
theorem read_nan (x:Nat) (h:9218868437227405312<x % 9223372036854775808):∃a b,double.read x=.nan a b:=by
 have e1:double.signWeight=9223372036854775808:=by decide
 have e2:double.binade=4503599627370496:=by decide
 have e3:double.infRung=9218868437227405312:=by decide
 unfold Format.read;simp only[e1,e2,e3];rw[if_neg (by omega),if_neg (by omega),if_neg (by omega)];exact⟨_,_,rfl⟩
def fcmp (a b:Int):Ordering:=if a<b then .lt else if a=b then .eq else .gt
theorem compare_int (a b:Int):compare a b=fcmp a b:=rfl
theorem fcmp_iff {a b c d:Int} (h1:a<b↔c<d) (h2:a=b↔c=d):fcmp a b=fcmp c d:=by
 unfold fcmp;by_cases h:a<b
 · rw[if_pos h,if_pos (h1.1 h)]
 · rw[if_neg h,if_neg (fun e=>h (h1.2 e))];by_cases h':a=b
   · rw[if_pos h',if_pos (h2.1 h')]
   · rw[if_neg h',if_neg (fun e=>h' (h2.2 e))]
def sgn (s:Bool) (m:Nat):Int:=if s then -(m:Int) else(m:Int)
theorem sgn_mul (s:Bool) (m k:Nat):sgn s (m*k)=sgn s m*(k:Int):=by
 unfold sgn;split
 · rw[Int.natCast_mul,Int.neg_mul]
 · rw[Int.natCast_mul]
theorem signed_sgn (s:Bool) (m k:Nat):signed s m k=sgn s (m*2 ^ k):=by
 unfold signed sgn;simp[Nat.shiftLeft_eq]
theorem order_num (s t:Bool) (m n i j:Nat) (L:Int):(Datum.number s m (L+(i:Int))).order (.number t n (L+(j:Int)))=some (fcmp (sgn s (m*2 ^ i)) (sgn t (n*2 ^ j))):=by
 unfold Datum.order;simp only[compare_int,signed_sgn,Option.some.injEq];obtain⟨a,ha⟩:∃a,(L+(i:Int) - min (L+(i:Int)) (L+(j:Int))).toNat=a:=⟨_,rfl⟩
 obtain⟨c,hc⟩:∃c,(L+(j:Int) - min (L+(i:Int)) (L+(j:Int))).toNat=c:=⟨_,rfl⟩
 obtain⟨l,hl⟩:∃l,l=min i j:=⟨_,rfl⟩
 have h1:i=a+l:=by omega
 have h2:j=c+l:=by omega
 rw[ha,hc,h1,h2,Nat.pow_add,Nat.pow_add,←Nat.mul_assoc,←Nat.mul_assoc,sgn_mul s (m*2 ^ a),sgn_mul t (n*2 ^ c)];have hp:(0:Int)<((2 ^ l:Nat):Int):=by exact_mod_cast Nat.two_pow_pos l
 generalize((2 ^ l:Nat):Int)=K at hp;refine fcmp_iff ⟨fun h=>Int.mul_lt_mul_of_pos_right h hp,fun h=>Int.lt_of_mul_lt_mul_right h (Int.le_of_lt hp)⟩ ⟨fun h=>by rw[h],fun h=>Int.eq_of_mul_eq_mul_right (by omega) h⟩
theorem order_keys (x y:Nat) (hx:x<18446744073709551616) (hy:y<18446744073709551616) (nx:fnan x=false) (ny:fnan y=false):double.order x y=some (fcmp (fkey x) (fkey y)):=by
 unfold fnan at nx ny;simp only[decide_eq_false_iff_not] at nx ny;have kx:fkey x=sgn (x / 9223372036854775808 % 2==1) (x % 9223372036854775808):=by
  unfold fkey sgn;by_cases h:x<9223372036854775808
  · have h1:x / 9223372036854775808=0:=by omega
    rw[if_pos h,h1];simp;omega
  · have h1:x / 9223372036854775808=1:=by omega
    rw[if_neg h,h1];simp;omega
 have ky:fkey y=sgn (y / 9223372036854775808 % 2==1) (y % 9223372036854775808):=by
  unfold fkey sgn;by_cases h:y<9223372036854775808
  · have h1:y / 9223372036854775808=0:=by omega
    rw[if_pos h,h1];simp;omega
  · have h1:y / 9223372036854775808=1:=by omega
    rw[if_neg h,h1];simp;omega
 rw[kx,ky];unfold Format.order;have hr:x % 9223372036854775808<9218868437227405312∨x % 9223372036854775808=9218868437227405312:=by omega
 have hq:y % 9223372036854775808<9218868437227405312∨y % 9223372036854775808=9218868437227405312:=by omega
 rcases hr with hr | hr
 · obtain⟨m,i,e1,v1⟩:=read_num x hr;rcases hq with hq | hq
   · obtain⟨n,j,e2,v2⟩:=read_num y hq;rw[e1,e2,order_num,v1,v2];clear e1 e2 v1 v2 kx ky nx ny hx hy;generalize(x / 9223372036854775808 % 2==1)=s;generalize(y / 9223372036854775808 % 2==1)=t;generalize x % 9223372036854775808=r at*;generalize y % 9223372036854775808=q at*;have a1:r<q→fval r<fval q:=fval_lt;have a2:q<r→fval q<fval r:=fval_lt;have a3:r=q→fval r=fval q:=fun e=>by rw[e]
     have a4:0<r→0<fval r:=fun h=>by have:=fval_lt h;rwa[fval_zero] at this
     have a5:0<q→0<fval q:=fun h=>by have:=fval_lt h;rwa[fval_zero] at this
     have a6:r=0→fval r=0:=fun e=>by rw[e,fval_zero]
     have a7:q=0→fval q=0:=fun e=>by rw[e,fval_zero]
     generalize fval r=R at*;generalize fval q=Q at*;refine congrArg some (fcmp_iff ?_ ?_)<;>(unfold sgn;cases s<;>cases t<;>simp only[Bool.false_eq_true,if_false,if_true]<;>constructor<;>intro h<;>omega)
   · rw[e1,read_inf y hq,hq];generalize(x / 9223372036854775808 % 2==1)=s;generalize(y / 9223372036854775808 % 2==1)=t;unfold Datum.order
     cases t
     · simp only[Bool.false_eq_true,if_false];unfold fcmp sgn;rw[if_pos (by cases s<;>simp only[Bool.false_eq_true,if_false,if_true]<;>omega)]
     · simp only[if_true];unfold fcmp sgn;rw[if_neg (by cases s<;>simp only[Bool.false_eq_true,if_false,if_true]<;>omega),if_neg (by cases s<;>simp only[Bool.false_eq_true,if_false,if_true]<;>omega)]
 · rcases hq with hq | hq
   · obtain⟨n,j,e2,v2⟩:=read_num y hq;rw[e2,read_inf x hr,hr];generalize(x / 9223372036854775808 % 2==1)=s;generalize(y / 9223372036854775808 % 2==1)=t;unfold Datum.order
     cases s
     · simp only[Bool.false_eq_true,if_false];unfold fcmp sgn;rw[if_neg (by cases t<;>simp only[Bool.false_eq_true,if_false,if_true]<;>omega),if_neg (by cases t<;>simp only[Bool.false_eq_true,if_false,if_true]<;>omega)]
     · simp only[if_true];unfold fcmp sgn;rw[if_pos (by cases t<;>simp only[Bool.false_eq_true,if_false,if_true]<;>omega)]
   · rw[read_inf x hr,read_inf y hq,hr,hq];generalize(x / 9223372036854775808 % 2==1)=s;generalize(y / 9223372036854775808 % 2==1)=t
     cases s<;>cases t<;>decide
theorem order_nan (x y:Nat) (h:fnan x=true∨fnan y=true):double.order x y=none:=by
 unfold fnan at h;simp only[decide_eq_true_eq] at h;unfold Format.order;rcases h with h | h
 · obtain⟨a,b,e⟩:=read_nan x h;rw[e];rfl
 · obtain⟨a,b,e⟩:=read_nan y h;rw[e];generalize double.read x=d
   cases d<;>rfl
abbrev flV (x:Nat):Value:=.float .f64 x
def F64 (x:Nat):Prop:=x<18446744073709551616
def fle (x y:Nat):Bool:= !fnan x && !fnan y && decide (fkey x≤fkey y)
def flt (x y:Nat):Bool:= !fnan x && !fnan y && decide (fkey x<fkey y)
def feq (x y:Nat):Bool:= !fnan x && !fnan y && decide (fkey x=fkey y)
theorem ford_some (x y:Nat) (hx:F64 x) (hy:F64 y):FloatKind.f64.format.order x y=if fnan x=true∨fnan y=true then none else some (fcmp (fkey x) (fkey y)):=by
 show Ieee.double.order x y=_
 split
 · rename_i h;exact order_nan x y h
 · rename_i h
   simp only[not_or,Bool.not_eq_true] at h;exact order_keys x y hx hy h.1 h.2
theorem run_feq (x y:Nat) (hx:F64 x) (hy:F64 y):(FloatKind.f64.format.order x y==some .eq)=feq x y:=by
 rw[ford_some x y hx hy];unfold feq
 cases fnan x<;>cases fnan y<;>simp[fcmp]
 split<;>(try split)<;>simp<;>omega
theorem run_flt (x y:Nat) (hx:F64 x) (hy:F64 y):(FloatKind.f64.format.order x y==some .lt)=flt x y:=by
 rw[ford_some x y hx hy];unfold flt
 cases fnan x<;>cases fnan y<;>simp[fcmp]
 split<;>(try split)<;>simp<;>omega
theorem run_fgt (x y:Nat) (hx:F64 x) (hy:F64 y):(FloatKind.f64.format.order x y==some .gt)=flt y x:=by
 rw[ford_some x y hx hy];unfold flt
 cases fnan x<;>cases fnan y<;>simp[fcmp]
 split<;>(try split)<;>simp<;>omega
theorem run_fge (x y:Nat) (hx:F64 x) (hy:F64 y):(FloatKind.f64.format.order x y==some .gt || FloatKind.f64.format.order x y==some .eq)=fle y x:=by
 rw[run_feq x y hx hy,run_fgt x y hx hy];unfold feq flt fle
 cases fnan x<;>cases fnan y<;>simp
 rw[Bool.eq_iff_iff];simp;omega
theorem f64_zero:F64 0:=by unfold F64;omega
def fdelay (x:Nat):Bool:= !fnan x && decide (x≤9223372036854775808)
def fplain (x:Nat):Nat:=if fnan x=true then 9221120237041090561 else if x=9223372036854775808 then 0 else x
def fclass (x:Nat):Int:=if fnan x=true then 2 else if x=9223372036854775808 then 0 else 1
def fplace (x:Nat):Int:=if fnan x=true then 18446744073709551615 else if x<9223372036854775808 then x else -1 - ((x:Int) - 9223372036854775808)
def forder (a b:Nat):Int:=if fplace a<fplace b then -1 else if fplace b<fplace a then 1 else 0
theorem fle_zero (x:Nat) (hx:F64 x):fle 0 x=fdelay x:=by
 unfold fle fdelay fkey;rw[show fnan 0=false by decide]
 cases fnan x<;>simp
 unfold F64 at hx;split<;>omega
theorem bits_run (x:Nat) (w:World):(callFunc 256 #[flV x]).run Tryz.prog w=.ok (.value (.int .u64 x)) w:=by
 rw[run_callFunc_extern (e:=Extern.MathFloatBits.float64bits) Tryz.func256 (by kernel_rfl) (by kernel_rfl) (by kernel_rfl) (by kernel_rfl)];rfl
theorem frombits_run (x:Int) (w:World):(callFunc 208 #[.int .u64 x]).run Tryz.prog w=.ok (.value (flV x.toNat)) w:=by
 rw[run_callFunc_extern (e:=Extern.MathFloatBits.float64frombits) Tryz.func208 (by kernel_rfl) (by kernel_rfl) (by kernel_rfl) (by kernel_rfl)];rfl
theorem raw_of (x:Nat) (w:World):Calls Tryz.prog 200 #[flV x] w (Gives (.int .u64 x) w):=by
 have hb:=bits_run x;go_enter Tryz.func200,Tryz.ntmps200;go_wp2;go_ret;exact⟨rfl,rfl⟩
theorem and_low (x:Nat) (hx:F64 x):bits .and .u64 (x:Int) 9223372036854775807=((x % 9223372036854775808:Nat):Int):=by
 unfold F64 at hx;have h1:(BitVec.ofInt 64 (x:Int)).toNat=x:=by simp;omega
 have h2:(BitVec.ofInt 64 9223372036854775807).toNat=2 ^ 63 - 1:=by decide
 have h3:(BitVec.ofInt 64 (x:Int) &&& BitVec.ofInt 64 9223372036854775807).toNat=x % 9223372036854775808:=by
  rw[BitVec.toNat_and,h1,h2,Nat.and_two_pow_sub_one_eq_mod]
 show IntKind.u64.wrap ((BitVec.ofInt 64 (x:Int) &&& BitVec.ofInt 64 9223372036854775807).toNat:Int)=_
 rw[h3];exact IntWalk.u64_in _ (by omega)
theorem rnan_of (x:Nat) (hx:F64 x) (w:World):Calls Tryz.prog 218 #[flV x] w (Gives (.bool (fnan x)) w):=by
 have hb:=bits_run x;have hm:=and_low x hx;go_enter Tryz.func218,Tryz.ntmps218;go_wp2;go_ret;exact⟨ret_bool (by unfold fnan;rw[Bool.eq_iff_iff];simp only[decide_eq_true_eq];omega),rfl⟩
theorem rbits_of (x:Nat) (hx:F64 x) (w:World):Calls Tryz.prog 120 #[flV x] w (Gives (.int .u64 (fplain x:Nat)) w):=by
 unfold fplain;obtain⟨n,hn⟩:∃n,n=fnan x:=⟨_,rfl⟩
 have hN:=fun W=>rnan_of x hx W
 rw[←hn] at hN⊢;have HN:=qq hN;clear hN hn;have HR:=qq (fun W=>raw_of x W)
 cases n
 · by_cases h0:x=9223372036854775808
   · subst h0;go_enter Tryz.func120,Tryz.ntmps120;go_wp2_with (first | (go_at_call 218;refine(HN.out _).mono ?_;rintro e w1 ⟨rfl,rfl⟩) | (go_at_call 200;refine(HR.out _).mono ?_;rintro e w1 ⟨rfl,rfl⟩));go_ret;exact⟨rfl,rfl⟩
   · have h1:¬((x:Int)=9223372036854775808):=by omega
     simp only[h0,if_false];go_enter Tryz.func120,Tryz.ntmps120;go_wp2_with (first | (go_at_call 218;refine(HN.out _).mono ?_;rintro e w1 ⟨rfl,rfl⟩) | (go_at_call 200;refine(HR.out _).mono ?_;rintro e w1 ⟨rfl,rfl⟩));go_ret;exact⟨rfl,rfl⟩
 · go_enter Tryz.func120,Tryz.ntmps120;go_wp2_with (first | (go_at_call 218;refine(HN.out _).mono ?_;rintro e w1 ⟨rfl,rfl⟩));go_ret;exact⟨rfl,rfl⟩
theorem fdelay_cases (x:Nat):(fnan x=false→(x:Int)≤9223372036854775808→fdelay x=true)∧(fnan x=true→fdelay x=false)∧(9223372036854775808<(x:Int)→fdelay x=false):=by
 unfold fdelay;refine⟨fun h1 h2=> ?_,fun h1=> ?_,fun h1=> ?_⟩
 · rw[h1,Bool.not_false,Bool.true_and,decide_eq_true_eq];omega
 · rw[h1,Bool.not_true,Bool.false_and]
 · rw[decide_eq_false (by omega),Bool.and_false]
theorem rdelay_a (x:Nat) (w:World) (hN:∀W,Calls Tryz.prog 218 #[flV x] W (Gives (.bool false) W)) (hR:∀W,Calls Tryz.prog 200 #[flV x] W (Gives (.int .u64 x) W)) (h1:(x:Int)<9223372036854775808):Calls Tryz.prog 223 #[flV x] w (Gives (.bool true) w):=by
 go_enter Tryz.func223,Tryz.ntmps223;go_wp2_with (first | (go_at_call 218;refine(hN _).mono ?_;rintro e w1 ⟨rfl,rfl⟩) | (go_at_call 200;refine(hR _).mono ?_;rintro e w1 ⟨rfl,rfl⟩));go_ret;exact⟨ret_bool (by simp[h1]),rfl⟩
theorem rdelay_b (w:World) (hN:∀W,Calls Tryz.prog 218 #[flV 9223372036854775808] W (Gives (.bool false) W)) (hR:∀W,Calls Tryz.prog 200 #[flV 9223372036854775808] W (Gives (.int .u64 9223372036854775808) W)):Calls Tryz.prog 223 #[flV 9223372036854775808] w (Gives (.bool true) w):=by
 go_enter Tryz.func223,Tryz.ntmps223;go_wp2_with (first | (go_at_call 218;refine(hN _).mono ?_;rintro e w1 ⟨rfl,rfl⟩) | (go_at_call 200;refine(hR _).mono ?_;rintro e w1 ⟨rfl,rfl⟩));go_ret;exact⟨ret_bool (by simp),rfl⟩
theorem rdelay_c (x:Nat) (y:Int) (w:World) (hN:∀W,Calls Tryz.prog 218 #[flV x] W (Gives (.bool false) W)) (hR:∀W,Calls Tryz.prog 200 #[flV x] W (Gives (.int .u64 y) W)) (h1:¬y<9223372036854775808) (h2:¬y=9223372036854775808):Calls Tryz.prog 223 #[flV x] w (Gives (.bool false) w):=by
 go_enter Tryz.func223,Tryz.ntmps223;go_wp2_with (first | (go_at_call 218;refine(hN _).mono ?_;rintro e w1 ⟨rfl,rfl⟩) | (go_at_call 200;refine(hR _).mono ?_;rintro e w1 ⟨rfl,rfl⟩));go_ret;exact⟨ret_bool (by simp[h2];exact h1),rfl⟩
theorem rdelay_d (x:Nat) (w:World) (hN:∀W,Calls Tryz.prog 218 #[flV x] W (Gives (.bool true) W)) (hR:∀W,Calls Tryz.prog 200 #[flV x] W (Gives (.int .u64 x) W)):Calls Tryz.prog 223 #[flV x] w (Gives (.bool false) w):=by
 go_enter Tryz.func223,Tryz.ntmps223;go_wp2_with (first | (go_at_call 218;refine(hN _).mono ?_;rintro e w1 ⟨rfl,rfl⟩) | (go_at_call 200;refine(hR _).mono ?_;rintro e w1 ⟨rfl,rfl⟩));go_ret;exact⟨ret_bool (by simp),rfl⟩
theorem rdelay_of (x:Nat) (hx:F64 x) (w:World):Calls Tryz.prog 223 #[flV x] w (Gives (.bool (fdelay x)) w):=by
 have hN:=fun W=>rnan_of x hx W
 have hr:=fdelay_cases x;have hR:=fun W=>raw_of x W
 cases hn:fnan x with
 | true=>
  rw[hn] at hN;rw[hr.2.1 hn];exact rdelay_d x w hN hR
 | false=>
  rw[hn] at hN;by_cases h1:(x:Int)<9223372036854775808
  · rw[hr.1 hn (by omega)];exact rdelay_a x w hN hR h1
  · by_cases h2:(x:Int)=9223372036854775808
    · rw[hr.1 hn (by omega)];obtain rfl:x=9223372036854775808:=by omega
      exact rdelay_b w hN hR
    · rw[hr.2.2 (by omega)];exact rdelay_c x (x:Int) w hN hR h1 h2
theorem sign_pos (x:Nat) (y:Int) (hy:0≤wrap64 y) (hb:∀w,(callFunc 256 #[flV x]).run Tryz.prog w=.ok (.value (.int .u64 y)) w) (w:World):Calls Tryz.prog 290 #[flV x] w (Gives (.bool false) w):=by
 go_enter Tryz.func290,Tryz.ntmps290;go_wp2;go_ret;exact⟨ret_bool (by first | rfl | (simp[hy];done) | (simp;exact hy)),rfl⟩
theorem sign_neg (x:Nat) (y:Int) (hy:wrap64 y<0) (hb:∀w,(callFunc 256 #[flV x]).run Tryz.prog w=.ok (.value (.int .u64 y)) w) (w:World):Calls Tryz.prog 290 #[flV x] w (Gives (.bool true) w):=by
 go_enter Tryz.func290,Tryz.ntmps290;go_wp2;go_ret;exact⟨ret_bool (by first | rfl | (simp[hy];done) | (simp;exact hy)),rfl⟩
theorem sign_of (x:Nat) (hx:F64 x) (w:World):(x<9223372036854775808→Calls Tryz.prog 290 #[flV x] w (Gives (.bool false) w))∧(9223372036854775808≤x→Calls Tryz.prog 290 #[flV x] w (Gives (.bool true) w)):=by
 unfold F64 at hx;constructor
 · intro h;exact sign_pos x (x:Int) (by unfold wrap64;omega) (bits_run x) w
 · intro h;exact sign_neg x (x:Int) (by unfold wrap64;omega) (bits_run x) w
theorem class_a (x:Nat) (h1:(FloatKind.f64.format.order x x !=some .eq)=true) (w:World):Calls Tryz.prog 254 #[flV x] w (Gives (.int .i64 2) w):=by
 go_enter Tryz.func254,Tryz.ntmps254;go_wp2;go_ret;exact⟨rfl,rfl⟩
theorem class_b (x:Nat) (h1:(FloatKind.f64.format.order x x !=some .eq)=false) (h2:(FloatKind.f64.format.order x 0==some .eq)=false) (w:World):Calls Tryz.prog 254 #[flV x] w (Gives (.int .i64 1) w):=by
 go_enter Tryz.func254,Tryz.ntmps254;go_wp2;go_ret;exact⟨rfl,rfl⟩
theorem class_c (x:Nat) (h1:(FloatKind.f64.format.order x x !=some .eq)=false) (h2:(FloatKind.f64.format.order x 0==some .eq)=true) (hs:∀W,Calls Tryz.prog 290 #[flV x] W (Gives (.bool false) W)) (w:World):Calls Tryz.prog 254 #[flV x] w (Gives (.int .i64 1) w):=by
 go_enter Tryz.func254,Tryz.ntmps254;go_wp2_with (go_at_call 290;refine(hs _).mono ?_;rintro e w1 ⟨rfl,rfl⟩);go_ret;exact⟨rfl,rfl⟩
theorem class_d (x:Nat) (h1:(FloatKind.f64.format.order x x !=some .eq)=false) (h2:(FloatKind.f64.format.order x 0==some .eq)=true) (hs:∀W,Calls Tryz.prog 290 #[flV x] W (Gives (.bool true) W)) (w:World):Calls Tryz.prog 254 #[flV x] w (Gives (.int .i64 0) w):=by
 go_enter Tryz.func254,Tryz.ntmps254;go_wp2_with (go_at_call 290;refine(hs _).mono ?_;rintro e w1 ⟨rfl,rfl⟩);go_ret;exact⟨rfl,rfl⟩
theorem class_of (x:Nat) (hx:F64 x) (w:World):Calls Tryz.prog 254 #[flV x] w (Gives (.int .i64 (fclass x)) w):=by
 have e1:(FloatKind.f64.format.order x x !=some .eq)=fnan x:=by
  rw[bne,run_feq x x hx hx];unfold feq;cases fnan x<;>simp
 have e2:=run_feq x 0 hx f64_zero;have h0:fkey 0=0:=by decide
 have hn0:fnan 0=false:=by decide
 unfold fclass
 cases hn:fnan x with
 | true=>
  rw[hn] at e1;exact class_a x e1 w
 | false=>
  rw[hn] at e1;unfold feq at e2;rw[hn,hn0,h0] at e2;simp only[Bool.not_false,Bool.true_and,Bool.false_eq_true,if_false] at e2⊢;by_cases h1:x=9223372036854775808
  · have:fkey x=0:=by rw[h1];decide
    rw[decide_eq_true this] at e2;rw[if_pos h1];exact class_d x e1 e2 (fun W=>(sign_of x hx W).2 (by omega)) w
  · rw[if_neg h1];by_cases h2:x=0
    · have:fkey x=0:=by rw[h2];decide
      rw[decide_eq_true this] at e2;exact class_c x e1 e2 (fun W=>(sign_of x hx W).1 (by omega)) w
    · have:¬fkey x=0:=by unfold fkey;unfold F64 at hx;split<;>omega
      rw[decide_eq_false this] at e2;exact class_b x e1 e2 w
theorem nan_of (w:World):Calls Tryz.prog 294 #[] w (Gives (flV 9221120237041090561) w):=by
 have hf:=frombits_run 9221120237041090561;go_enter Tryz.func294,Tryz.ntmps294;go_wp2;go_ret;exact⟨rfl,rfl⟩
theorem plain_of (x:Nat) (hx:F64 x) (w:World):Calls Tryz.prog 267 #[flV x] w (Gives (flV (fplain x)) w):=by
 have hC:=fun W=>class_of x hx W
 unfold fclass at hC;unfold fplain;have HN:=qq nan_of
 cases hn:fnan x with
 | true=>
  simp only[hn,if_true] at hC⊢;clear hx hn;go_enter Tryz.func267,Tryz.ntmps267;go_wp2_with (first | (go_at_call 254;refine(hC _).mono ?_;rintro e w1 ⟨rfl,rfl⟩) | (go_at_call 294;refine(HN.out _).mono ?_;rintro e w1 ⟨rfl,rfl⟩));go_ret;exact⟨rfl,rfl⟩
 | false=>
  simp only[hn,Bool.false_eq_true,if_false] at hC⊢;by_cases h1:x=9223372036854775808
  · rw[if_pos h1];simp only[h1,if_true] at hC;subst h1;clear hx hn;go_enter Tryz.func267,Tryz.ntmps267;go_wp2_with (first | (go_at_call 254;refine(hC _).mono ?_;rintro e w1 ⟨rfl,rfl⟩));go_ret;exact⟨rfl,rfl⟩
  · rw[if_neg h1];simp only[h1,if_false] at hC;clear hx hn h1;go_enter Tryz.func267,Tryz.ntmps267;go_wp2_with (first | (go_at_call 254;refine(hC _).mono ?_;rintro e w1 ⟨rfl,rfl⟩));go_ret;exact⟨rfl,rfl⟩
theorem delay_yes (x:Nat) (hx:F64 x) (hd:fdelay x=true) (w:World):Calls Tryz.prog 221 #[flV x] w (Gives (.tuple #[flV (fplain x),.nilIface]) w):=by
 have HP:=qq (fun W=>plain_of x hx W);have e1:=run_fge x 0 hx f64_zero;rw[fle_zero x hx,hd] at e1;clear hx hd;go_enter Tryz.func221,Tryz.ntmps221;go_wp2_with (first | (go_at_call 267;refine(HP.out _).mono ?_;rintro e w1 ⟨rfl,rfl⟩));go_ret2;exact⟨rfl,rfl⟩
theorem delay_no (x:Nat) (hx:F64 x) (hd:fdelay x=false) (a:Addr) (w:World) (he:ErrIs w 3 a):Calls Tryz.prog 221 #[flV x] w (Makes (.tuple #[flV 0,errV a]) w):=by
 have e1:=run_fge x 0 hx f64_zero;rw[fle_zero x hx,hd] at e1;have h1:w.cell? ⟨3,0,none⟩=some (errV a):=he;clear hx hd he;go_enter Tryz.func221,Tryz.ntmps221;go_wp2_with fail;go_region
 all_goals go_wp2
 all_goals go_ret2
 all_goals exact⟨rfl,by go_grown⟩
def Fails (v:Value) (w:World) (e:Ending) (w':World):Prop:=e=.panicked [{v:=v,recovered:=false}]∧Below w.heap.size w w'
theorem told1_of (n m : Int) (hn : 1 ≤ n ∧ n ≤ 14) (hm : 1 ≤ m ∧ m ≤ 14) (ea : Int → Addr) (ka : Addr) (w : World) (h : Errs ea w) (hk : w.cell? ka = some (errV (ea n))) :
    Calls Tryz.prog 264 #[errV (ea m),.pointer (some ka)] w (Makes (.bool (n==m)) w):=by
 have hlt:=lt_of_cell hk;by_cases hnm:n=m
 · subst hnm;rw[show(n==n)=true by simp];clear h;go_enter Tryz.func264,Tryz.ntmps264;go_wp2_with fail;refine(is_same _ _).mono ?_;rintro e w' ⟨rfl,rfl⟩;go_wp2_with fail;go_ret;exact⟨rfl,by go_grown⟩
 · rw[show(n==m)=false by simpa using hnm];have hne:ea n≠ea m:=fun he=>hnm (h.ne _ _ hn.1 hn.2 hm.1 hm.2 he)
   have HE:=qq h;have HN:=qq hne;clear h hne hnm;go_enter Tryz.func264,Tryz.ntmps264;go_wp2_with fail;obtain⟨c1,t1,r1⟩:=HE.out.row n hn.1 hn.2;obtain⟨c2,t2,r2⟩:=HE.out.row m hm.1 hm.2;refine(is_other _ _ _ _ _ _ _ HN.out r1 r2).mono ?_;rintro e w' ⟨rfl,rfl⟩;go_wp2_with fail;go_ret;exact⟨rfl,by go_grown⟩
def Own14 (ea:Int→Addr) (w:World) (b:Nat):Prop:=b<w.heap.size∧∀j:Nat,j<14→w.cell? ⟨b,j,none⟩=some (errV (ea ((j:Int)+1)))
theorem Own14.below {ea:Int→Addr} {w w':World} {b:Nat} (h:Own14 ea w b) (hb:Below w.heap.size w w'):Own14 ea w' b:=
 ⟨Nat.lt_of_lt_of_le h.1 hb.size,fun j hj=>(hb.cell (p:=⟨b,j,none⟩) h.1).trans (h.2 j hj)⟩
theorem indexe_of (n : Int) (hn : 1 ≤ n ∧ n ≤ 14) (ea : Int → Addr) (ka : Addr) (b : Nat) (w : World) (h : Errs ea w) (hk : w.cell? ka = some (errV (ea n))) (ho : Own14 ea w b) :
    Calls Tryz.prog 262 #[.slice (some ⟨b,0,none⟩) 14 14,.func (.func 264) #[] #[.pointer (some ka)]] w (Makes (.int .i64 (n - 1)) w):=by
 have hlt:=lt_of_cell hk;have HR:=qq ho;clear ho;have HE:=qq h;clear h;go_enter Tryz.func262,Tryz.ntmps262;go_wp2;go_loopw [8] (fun i wr=>∃j:Nat,(j:Int)+1≤n∧i=.int .i64 j∧Below w.heap.size w wr) (fun i _=>14 - (intOf i).toNat)
 case atStart=>exact⟨0,by omega,rfl,Below.refl _ _⟩
 case round=>
  obtain⟨j,hj,rfl,hb⟩:=hrel;have hkr:wr.cell? ka=some (errV (ea n)):=(hb.cell (p:=ka) hlt).trans hk;have h1:=(HR.out.below hb).2 j (by omega);have hj14:j<14:=by omega
  go_wp2_with (go_at_call 264;refine(told1_of n _ hn ⟨by omega,by omega⟩ ea _ _ (HE.out.below hb) hkr).mono ?_;rintro e w' ⟨rfl,hb'⟩)
  · have he:(n==(j:Int)+1)=true:=by assumption
    go_ret;exact⟨ret_int (by simp at he;omega),hb.trans (hb'.mono hb.size)⟩
  · have he:(n==(j:Int)+1)=false:=by assumption
    go_roundw
    case rel=>exact⟨j+1,by simp at he;omega,by go_num,hb.trans (hb'.mono hb.size)⟩
    case measure=>simp[intOf];omega
open Go.RowKit Go.Stop Go.Extern.Stop
def own14 (ea:Int→Addr):Array Value:= #[errV (ea 1),errV (ea 2),errV (ea 3),errV (ea 4),errV (ea 5),errV (ea 6),errV (ea 7),errV (ea 8),errV (ea 9),errV (ea 10),errV (ea 11),errV (ea 12),errV (ea 13),errV (ea 14)]
theorem own14_of {ea:Int→Addr} (w:World):Own14 ea (w.alloc (.cells (own14 ea) 26)) w.heap.size:=by
 refine⟨by simp,fun j hj=> ?_⟩;rw[World.cell?_alloc_new]
 match j,hj with
 | 0,_ | 1,_ | 2,_ | 3,_ | 4,_ | 5,_ | 6,_ | 7,_ | 8,_ | 9,_ | 10,_ | 11,_ | 12,_ | 13,_=>rfl
theorem own_of (ea:Int→Addr) (w:World) (h:Errs ea w):Calls Tryz.prog 263 #[] w (fun e w'=>e=.returned (.slice (some ⟨w.heap.size,0,none⟩) 14 14)∧w'=w.alloc (.cells (own14 ea) 26)):=by
 have h1:w.cell? ⟨0,0,none⟩=some (errV (ea 1)):=h.e1;have h2:w.cell? ⟨1,0,none⟩=some (errV (ea 2)):=h.e2;have h3:w.cell? ⟨2,0,none⟩=some (errV (ea 3)):=h.e3;have h4:w.cell? ⟨3,0,none⟩=some (errV (ea 4)):=h.e4;have h5:w.cell? ⟨4,0,none⟩=some (errV (ea 5)):=h.e5;have h6:w.cell? ⟨5,0,none⟩=some (errV (ea 6)):=h.e6;have h7:w.cell? ⟨6,0,none⟩=some (errV (ea 7)):=h.e7
 have h8:w.cell? ⟨7,0,none⟩=some (errV (ea 8)):=h.e8;have h9:w.cell? ⟨8,0,none⟩=some (errV (ea 9)):=h.e9;have h10:w.cell? ⟨9,0,none⟩=some (errV (ea 10)):=h.e10;have h11:w.cell? ⟨10,0,none⟩=some (errV (ea 11)):=h.e11;have h12:w.cell? ⟨11,0,none⟩=some (errV (ea 12)):=h.e12;have h13:w.cell? ⟨12,0,none⟩=some (errV (ea 13)):=h.e13;have h14:w.cell? ⟨13,0,none⟩=some (errV (ea 14)):=h.e14;clear h
 go_enter Tryz.func263,Tryz.ntmps263;go_wp2_with fail;go_ret;exact⟨rfl,rfl⟩
theorem isErr (v:Value) (xT:TypeId) (w:World):(Instr.typeAssert (.iface 387 v) xT 26 true).run Tryz.prog w=.ok (.tuple #[.iface 387 v,.bool true]) w:=run_typeAssert_hasB Tryz.underlying26 (by kernel_rfl) v xT w
theorem told_of (n:Int) (hn:1≤n∧n≤14) (ea:Int→Addr) (w:World) (h:Errs ea w):Calls Tryz.prog 210 #[errV (ea n)] w (Makes (errV (ea n)) w):=by
 have hta:=isErr (.pointer (some (ea n))) 20;have hmf:∀(fn:Fn) (first cap:Array Value) (w:World),(Instr.makeFunc fn first cap).run Tryz.prog w=.ok (.func fn first cap) w:=fun _ _ _ _=>rfl
 have HE:=qq h;obtain⟨j,hj⟩:∃j:Nat,n=(j:Int)+1:=⟨(n - 1).toNat,by omega⟩
 have hs:n - 1=(j:Int):=by omega
 have hj14:j<14:=by omega
 have HI:Hid (∀(ka:Addr) (b:Nat) (W:World),Errs ea W→W.cell? ka=some (errV (ea n))→Own14 ea W b→Calls Tryz.prog 262 #[.slice (some ⟨b,0,none⟩) 14 14,.func (.func 264) #[] #[.pointer (some ka)]] W (Makes (.int .i64 (j:Int)) W)):=qq (fun ka b W hE hk ho=>by have:=indexe_of n hn ea ka b W hE hk ho;rw[hs] at this;exact this);obtain⟨o,ho⟩:∃o,o=Obj.cells (own14 ea) 26:=⟨_,rfl⟩
 have HO:Hid (∀W:World,Errs ea W→Calls Tryz.prog 263 #[] W (fun e w'=>e=.returned (.slice (some ⟨W.heap.size,0,none⟩) 14 14)∧w'=W.alloc o)):=qq (fun W hW=>by rw[ho];exact own_of ea W hW);have hO1:∀W:World,Own14 ea (W.alloc o) W.heap.size:=fun W=>by rw[ho];exact own14_of W
 have hO2:∀W:World,(W.alloc o).cell? ⟨W.heap.size,j,none⟩=some (errV (ea n)):=fun W=>by rw[(hO1 W).2 j (by omega),←hj]
 obtain⟨ev,hev⟩:∃ev,ev=errV (ea n):=⟨_,rfl⟩
 have HO1:=qq hO1;have HO2:=qq hO2;clear h hs hn hj ho hO1 hO2;go_enter Tryz.func210,Tryz.ntmps210;go_wp2_with fail;refine(HO.out _ (HE.out.below (by go_grown))).mono ?_;rintro e w1 ⟨rfl,rfl⟩;go_wp2_with fail;have HQ:Own14 ea ((w.alloc (.cells #[errV (ea n)] 26)).alloc o) (w.heap.size+1):=by
  have:=HO1.out (w.alloc (.cells #[errV (ea n)] 26));rwa[World.size_alloc] at this
 refine(HI.out _ _ _ (HE.out.below (by go_grown)) (by simp) HQ).mono ?_;rintro e w2 ⟨rfl,hb2⟩;have B2:Below w.heap.size w w2:=below_then (by go_grown) hb2;go_wp2_with fail;refine(HO.out _ (HE.out.below B2)).mono ?_;rintro e w3 ⟨rfl,rfl⟩;have hq:=HO2.out w2;go_wp2_with fail;go_ret;exact⟨rfl,B2.alloc B2.size _⟩
abbrev Str:=List UInt8
def bs (l:Str):ByteArray:=⟨l.toArray⟩
theorem bs_size (l:Str):(bs l).size=l.length:=by simp[bs,ByteArray.size]
theorem data_inj {a b:ByteArray} (h:a.data.toList=b.data.toList):a=b:=by
 cases a;cases b;simp at h;subst h;rfl
structure Ev where
 step:Int
 what:Str
 node:Int
 first:Str
 second:Str
deriving DecidableEq
inductive Said where
 | ev (e:Ev)
 | no (n:Int)
deriving DecidableEq
def Said.num:Said→Int
 | .ev _=>0
 | .no n=>n
open Go.RowKit Go.Shelf
theorem step_call {P : Program} {ops : Array Oper} {o : Oper} {a : Act} {w : World} {K : Act → World → Prop} {Q : Exit → Act → World → Prop} {E : Prop}
    (f:Nat) (argsO:Array Operand) (ts:Array TypeId) (args:List Value)
    (hop:o.op=Op.call {callee:=Callee.value (Operand.func f),args:=argsO,argTypes:=ts}) (he:Enters P f)
    (hw:Region.wanted o (yielded ops a.tmps)=true) (hargs:argsO.toList.map a.eval=args)
    (h:Calls P f args.toArray w (fun e w'=>∃v,e=.returned v∧K (a.put o.dst v) w')):
    if Region.wanted o (yielded ops a.tmps)=true then Oper.wp P o a w K Q else E:=by
 rw[if_pos hw];have hx:argsO.map a.eval=args.toArray:=Array.toList_inj.1 (by rw[Array.toList_map,hargs]);unfold Oper.wp;have hrun:(execOp a.eval o).run P w=.ok (.enter f args.toArray) w:=by
  have h1:=he args.toArray w;simp only[execOp,hop,resolve,Act.eval];simp[Deferred.ofValue,invoke];have hx2:(Array.map (fun x=>match x with
    | Operand.tmp t=>a.tmps.getD t undef
    | Operand.const v=>v
    | Operand.global g=>Value.pointer (some ⟨g,0,none⟩)
    | Operand.func f=>Value.func (.func f) #[] #[]) argsO)=args.toArray:=hx
  first
   | rw[hx2];exact h1
   | (rw[hx];exact h1)
 rw[hrun,Oper.upon_enter];refine h.mono ?_;rintro e w' ⟨v,rfl,hk⟩;exact hk
theorem wpAnyH_narrow {P : Program} {md : Region.Mode} {ops : Array Oper} {Q : Exit → Act → World → Prop} {S S' : World → Prop} (hS : ∀ w, S' w → S w) :
    ∀(fuel:Nat) (listed:Array Bool) (a:Act) (w:World),wpAnyH P md ops Q S' fuel listed a w→wpAnyH P md ops Q S fuel listed a w
 | 0,_,_,_,h=>h
 | fuel+1,_,_,_,h=>⟨h.1,fun i hi=>wpOp_mono (fun a' w' h'=>⟨hS _ h'.1,wpAnyH_narrow hS fuel _ a' w' h'.2⟩) (h.2 i hi)⟩
theorem wpAnyH_call {P : Program} {md : Region.Mode} {ops : Array Oper} {Q : Exit → Act → World → Prop} {S : World → Prop} {fuel : Nat} {listed : Array Bool} {a : Act} {w : World} {oi : Oper} {d : Option Tmp}
    (i:Nat) (f:Nat) (argsO:Array Operand) (ts:Array TypeId) (args:List Value) (hi:ops[i]? =some oi) (hd:oi.dst=d) (hr:Region.ready md ops listed=[i])
    (hop:oi.op=Op.call {callee:=Callee.value (Operand.func f),args:=argsO,argTypes:=ts}) (he:Enters P f)
    (hw:Region.wanted oi (yielded ops a.tmps)=true) (hargs:argsO.toList.map a.eval=args)
    (h:Calls P f args.toArray w (fun e w'=>∃v,e=.returned v∧∃S':World→Prop,(∀w,S' w→S w)∧S' w'∧(S' w'→wpAnyH P md ops Q S' fuel (listed.setIfInBounds i true) (a.put d v) w'))):
    wpAnyH P md ops Q S (fuel+1) listed a w:=by
 refine wpAnyH_all hr (by simp) (fun j hj=> ?_);obtain rfl:j=i:=by simpa using hj
 subst hd;refine wpOp_step hi (fun K' hK=> ?_);refine step_call f argsO ts args hop he hw hargs (h.mono ?_);rintro e w' ⟨v,rfl,S',h1,h2,h3⟩;exact⟨v,rfl,hK _ _ ⟨h1 _ h2,wpAnyH_narrow h1 _ _ _ _ (h3 h2)⟩⟩
theorem wpOp_call {P : Program} {ops : Array Oper} {Q : Exit → Act → World → Prop} {a : Act} {w : World} {oi : Oper} {d : Option Tmp} {N : Act → World → Prop}
    (i:Nat) (f:Nat) (argsO:Array Operand) (ts:Array TypeId) (args:List Value) (hi:ops[i]? =some oi) (hd:oi.dst=d)
    (hop:oi.op=Op.call {callee:=Callee.value (Operand.func f),args:=argsO,argTypes:=ts}) (he:Enters P f)
    (hw:Region.wanted oi (yielded ops a.tmps)=true) (hargs:argsO.toList.map a.eval=args)
    (h:Calls P f args.toArray w (fun e w'=>∃v,e=.returned v∧N (a.put d v) w')):wpOp P ops Q i N a w:=by
 subst hd;refine wpOp_step hi (fun K' hK=> ?_);refine step_call f argsO ts args hop he hw hargs (h.mono ?_);rintro e w' ⟨v,rfl,h3⟩;exact⟨v,rfl,hK _ _ h3⟩
theorem wpAnyH_takeAt {P : Program} {md : Region.Mode} {ops : Array Oper} {Q : Exit → Act → World → Prop} {S : World → Prop} {fuel : Nat} {listed : Array Bool} {a : Act} {w : World} {oi : Oper} {d : Option Tmp} {v : Value}
    (i:Nat) (hi:ops[i]? =some oi) (hd:oi.dst=d)
    (hs:Region.noSelect ops=true) (hf:Region.free md ops listed i=true) (hr:(Region.ready md ops listed).contains i=true)
    (hQ:∀c a w,Q (.panic c) (a.put oi.dst v) w→Q (.panic c) a w) (hS:S w) (hw:Region.wanted oi (yielded ops a.tmps)=true) (hy:∀w,S w→(execOp a.eval oi).run P w=.ok (.value v) w)
    (h:wpAnyH P md ops Q S fuel (listed.setIfInBounds i true) (a.put d v) w):wpAnyH P md ops Q S (fuel+1) listed a w:=by
 subst hd;exact wpAnyH_take hi hs hf hr hQ (.inl ⟨hw,hy⟩) hS h
theorem step_die {P : Program} {ops : Array Oper} {o : Oper} {a : Act} {w : World} {K : Act → World → Prop} {Q : Exit → Act → World → Prop} {E : Prop} (c : List PanicEntry)
    (f:Nat) (argsO:Array Operand) (ts:Array TypeId) (args:List Value)
    (hop:o.op=Op.call {callee:=Callee.value (Operand.func f),args:=argsO,argTypes:=ts}) (he:Enters P f)
    (hw:Region.wanted o (yielded ops a.tmps)=true) (hargs:argsO.toList.map a.eval=args)
    (h:Calls P f args.toArray w (fun e w'=>e=.panicked c∧Q (.panic c) a w')):
    if Region.wanted o (yielded ops a.tmps)=true then Oper.wp P o a w K Q else E:=by
 rw[if_pos hw];have hx:argsO.map a.eval=args.toArray:=Array.toList_inj.1 (by rw[Array.toList_map,hargs]);unfold Oper.wp;have hrun:(execOp a.eval o).run P w=.ok (.enter f args.toArray) w:=by
  have h1:=he args.toArray w;simp only[execOp,hop,resolve,Act.eval];simp[Deferred.ofValue,invoke];have hx2:(Array.map (fun x=>match x with
    | Operand.tmp t=>a.tmps.getD t undef
    | Operand.const v=>v
    | Operand.global g=>Value.pointer (some ⟨g,0,none⟩)
    | Operand.func f=>Value.func (.func f) #[] #[]) argsO)=args.toArray:=hx
  first
   | rw[hx2];exact h1
   | (rw[hx];exact h1)
 rw[hrun,Oper.upon_enter];refine h.mono ?_;rintro e w' ⟨rfl,hk⟩;exact hk
theorem wpAnyH_die {P : Program} {md : Region.Mode} {ops : Array Oper} {Q : Exit → Act → World → Prop} {S : World → Prop} {fuel : Nat} {listed : Array Bool} {a : Act} {w : World} {oi : Oper} (c : List PanicEntry)
    (i:Nat) (f:Nat) (argsO:Array Operand) (ts:Array TypeId) (args:List Value) (hi:ops[i]? =some oi) (hr:Region.ready md ops listed=[i])
    (hop:oi.op=Op.call {callee:=Callee.value (Operand.func f),args:=argsO,argTypes:=ts}) (he:Enters P f)
    (hw:Region.wanted oi (yielded ops a.tmps)=true) (hargs:argsO.toList.map a.eval=args)
    (h:Calls P f args.toArray w (fun e w'=>e=.panicked c∧Q (.panic c) a w')):
    wpAnyH P md ops Q S (fuel+1) listed a w:=by
 refine wpAnyH_all hr (by simp) (fun j hj=> ?_);obtain rfl:j=i:=by simpa using hj
 refine wpOp_step hi (fun K' hK=> ?_);exact step_die c f argsO ts args hop he hw hargs h
theorem wpAnyH_skipAt {P : Program} {md : Region.Mode} {ops : Array Oper} {Q : Exit → Act → World → Prop} {S : World → Prop} {fuel : Nat} {listed : Array Bool} {a : Act} {w : World} {oi : Oper} {d : Option Tmp}
    (i:Nat) (hi:ops[i]? =some oi) (hd:oi.dst=d)
    (hs:Region.noSelect ops=true) (hf:Region.free md ops listed i=true) (hr:(Region.ready md ops listed).contains i=true)
    (hQ:∀c a w,Q (.panic c) (a.put oi.dst undef) w→Q (.panic c) a w) (hS:S w) (hw:Region.wanted oi (yielded ops a.tmps)=false)
    (h:wpAnyH P md ops Q S fuel (listed.setIfInBounds i true) (a.put d undef) w):wpAnyH P md ops Q S (fuel+1) listed a w:=by
 subst hd;exact wpAnyH_take hi hs hf hr hQ (.inr ⟨hw,rfl⟩) hS h
theorem wpOp_alone {P : Program} {ops : Array Oper} {Q : Exit → Act → World → Prop} {a : Act} {w : World} {oi : Oper} {d : Option Tmp} {N : Act → World → Prop}
    (i:Nat) (v:Value) (w':World) (hi:ops[i]? =some oi) (hd:oi.dst=d)
    (hw:Region.wanted oi (yielded ops a.tmps)=true) (hrun:(execOp a.eval oi).run P w=.ok (.value v) w') (h:N (a.put d v) w'):wpOp P ops Q i N a w:=by
 subst hd;refine wpOp_step hi (fun K' hK=> ?_);rw[if_pos hw];unfold Oper.wp;rw[hrun];exact hK _ _ h
theorem takeT {P : Program} {md : Region.Mode} {ops : Array Oper} {Q : Exit → Act → World → Prop} {S : World → Prop} {fuel : Nat} {listed : Array Bool} {a : Act} {w : World} {oi : Oper} {d : Option Tmp} {v : Value}
    (i:Nat) (hS:S w) (hy:∀w,S w→(execOp a.eval oi).run P w=.ok (.value v) w) (h:wpAnyH P md ops Q S fuel (listed.setIfInBounds i true) (a.put d v) w)
    (hi:ops[i]? =some oi:=by rfl) (hd:oi.dst=d:=by rfl)
    (hs:Region.noSelect ops=true:=by kernel_rfl) (hf:Region.free md ops listed i=true:=by kernel_rfl) (hr:(Region.ready md ops listed).contains i=true:=by kernel_rfl)
    (hQ:∀c a w,Q (.panic c) (a.put oi.dst v) w→Q (.panic c) a w:=by exact fun _ _ _ h=>h) (hw:Region.wanted oi (yielded ops a.tmps)=true:=by rfl):wpAnyH P md ops Q S (fuel+1) listed a w:=
  wpAnyH_takeAt i hi hd hs hf hr hQ hS hw hy h
theorem skipT {P : Program} {md : Region.Mode} {ops : Array Oper} {Q : Exit → Act → World → Prop} {S : World → Prop} {fuel : Nat} {listed : Array Bool} {a : Act} {w : World} {oi : Oper} {d : Option Tmp}
    (i:Nat) (hS:S w) (h:wpAnyH P md ops Q S fuel (listed.setIfInBounds i true) (a.put d undef) w)
    (hi:ops[i]? =some oi:=by rfl) (hd:oi.dst=d:=by rfl)
    (hs:Region.noSelect ops=true:=by kernel_rfl) (hf:Region.free md ops listed i=true:=by kernel_rfl) (hr:(Region.ready md ops listed).contains i=true:=by kernel_rfl)
    (hQ:∀c a w,Q (.panic c) (a.put oi.dst undef) w→Q (.panic c) a w:=by exact fun _ _ _ h=>h) (hw:Region.wanted oi (yielded ops a.tmps)=false:=by rfl):wpAnyH P md ops Q S (fuel+1) listed a w:=
  wpAnyH_skipAt i hi hd hs hf hr hQ hS hw h
theorem takeU {P : Program} {md : Region.Mode} {ops : Array Oper} {Q : Exit → Act → World → Prop} {S : World → Prop} {fuel : Nat} {listed : Array Bool} {a : Act} {w : World} {oi : Oper} {d : Option Tmp} {v : Value}
    (i:Nat) (hi:ops[i]? =some oi) (hd:oi.dst=d) (hS:S w) (hy:∀w,S w→(execOp a.eval oi).run P w=.ok (.value v) w) (h:wpAnyH P md ops Q S fuel (listed.setIfInBounds i true) (a.put d v) w)
    (hs:Region.noSelect ops=true:=by kernel_rfl) (hf:Region.free md ops listed i=true:=by kernel_rfl) (hr:(Region.ready md ops listed).contains i=true:=by kernel_rfl)
    (hQ:∀c a w,Q (.panic c) (a.put oi.dst v) w→Q (.panic c) a w:=by exact fun _ _ _ h=>h) (hw:Region.wanted oi (yielded ops a.tmps)=true:=by rfl):wpAnyH P md ops Q S (fuel+1) listed a w:=
  wpAnyH_takeAt i hi hd hs hf hr hQ hS hw hy h
theorem puts : (∀ (a : Act) (d : Tmp) (v : Value), a.put (some d) v = { a with tmps := a.tmps.setIfInBounds d v }) ∧ (∀ (a : Act) (v : Value), a.put none v = a)
    ∧(∀(l:List Value) (i:Nat) (v:Value),l.toArray.setIfInBounds i v=(l.set i v).toArray)∧(∀(x v:Value) (l:List Value),(x::l).set 0 v=v::l)∧(∀(x v:Value) (l:List Value) (n:Nat),(x::l).set (n+1) v=x::l.set n v)
    ∧(∀(l:List Bool) (i:Nat) (v:Bool),l.toArray.setIfInBounds i v=(l.set i v).toArray)∧(∀(x v:Bool) (l:List Bool),(x::l).set 0 v=v::l)∧(∀(x v:Bool) (l:List Bool) (n:Nat),(x::l).set (n+1) v=x::l.set n v):=by
  refine⟨fun _ _ _=>rfl,fun _ _=>rfl,fun _ _ _=> ?_,fun _ _ _=>rfl,fun _ _ _ _=>rfl,fun _ _ _=> ?_,fun _ _ _=>rfl,fun _ _ _ _=>rfl⟩<;>simp
theorem dec_len:∀(k n:Nat),n<10 ^ (k+1)→(Lib.decDigits n).length≤k+1
 | 0,n,h=>by rw[Lib.decDigits,dif_pos (by omega)];simp
 | k+1,n,h=>by
  rw[Lib.decDigits];split
  · simp
  · have:=dec_len k (n / 10) (by rw[Nat.pow_succ] at h;omega);simp only[List.length_append,List.length_cons,List.length_nil];omega
shelf_lay LaysM.n171 Nm 171 at Tryz as shItoa
structure EnvS (ea:Int→Addr) (w:World):Prop where
 e:Errs ea w
 tab : Lib.TabIs Tryz.prog w "internal/strconv.uint64pow10" .u64 Lib.pow10Tab
theorem tabIs_below {w w':World} {n:String} {k:IntKind} {zs:List Int} (h:Lib.TabIs Tryz.prog w n k zs) (hb:Below w.heap.size w w'):Lib.TabIs Tryz.prog w' n k zs:=by
 unfold Lib.TabIs World.var? at h⊢
 cases hg:Tryz.prog.globalNamed n with
 | none=>rw[hg] at h;cases h
 | some g=>
  rw[hg] at h;simp only[Option.bind_some] at h⊢;rcases Nat.lt_or_ge g w.heap.size with hlt | hge
  · rw[hb.block g hlt];exact h
  · rw[Array.getElem?_eq_none hge] at h;cases h
theorem EnvS.below {ea:Int→Addr} {w w':World} (h:EnvS ea w) (hb:Below w.heap.size w w'):EnvS ea w':=⟨h.e.below hb,tabIs_below h.tab hb⟩
theorem EnvS.drew' {ea:Int→Addr} {w:World} (h:EnvS ea w):EnvS ea w.drew:=h.below (Below.refl _ _).drew
theorem grow_below (w:World) (k:Nat) (os:Array Obj):Below w.heap.size w (Go.Sort.grow (w.drewN k) os):=by
 exact⟨rfl,rfl,rfl,by simp,fun j hj=>Go.Sort.heap_grow_old _ _ (by simpa using hj)⟩
theorem itoa_of (n : Int) (h0 : 0 ≤ n) (h1 : n ≤ 999999) (w : World) (h : Lib.TabIs Tryz.prog w "internal/strconv.uint64pow10" .u64 Lib.pow10Tab) : Calls Tryz.prog 297 #[.int .i64 n] w (Makes (.string (bs (Lib.decDigits n.toNat))) w) := by
 have hn:Lib.itoa n=Lib.decDigits n.toNat:=by unfold Lib.itoa;rw[if_neg (by omega)]
 refine(Any.strconv_Itoa shItoa n (by omega) (by omega) w h).mono ?_;rintro e w' ⟨rfl,k,os,rfl⟩;exact⟨by rw[hn];rfl,grow_below _ _ _⟩
theorem idNumber_yes (n:Int) (m:Int) (h0:0≤n) (h1:n≤m) (hm:m≤999999) (ea:Int→Addr) (w:World) (h:EnvS ea w):Calls Tryz.prog 272 #[.int .i64 n,.int .i64 m] w (Makes (.string (bs (Lib.decDigits n.toNat))) w):=by
 have HI:=qq (fun W hW=>itoa_of n h0 (by omega) W hW);have HE:=qq h;clear h;go_enter Tryz.func272,Tryz.ntmps272;go_wp2_with fail;refine(HI.out _ (HE.out.below (by go_grown)).tab).mono ?_;rintro e w1 ⟨rfl,hb1⟩;go_wp2_with fail;go_ret;exact⟨rfl,below_then (by go_grown) hb1⟩
theorem idNumber_no (n:Int) (m:Int) (hn:n<0∨m<n) (ea:Int→Addr) (w:World) (h:Errs ea w):Calls Tryz.prog 272 #[.int .i64 n,.int .i64 m] w (Fails (errV (ea 1)) w):=by
 have h1:w.cell? ⟨0,0,none⟩=some (errV (ea 1)):=h.e1;clear h;by_cases hn0:n<0
 · clear hn;go_enter Tryz.func272,Tryz.ntmps272;go_wp2_with fail;exact⟨rfl,rfl,by go_grown⟩
 · have hm:=hn.resolve_left hn0;clear hn;go_enter Tryz.func272,Tryz.ntmps272;go_wp2_with fail;exact⟨rfl,rfl,by go_grown⟩
theorem catch_idle_s (d x e : Addr) (w : World) (hd : w.cell? d = some (.bool true)) :
    CallsD Tryz.prog 296 #[.pointer (some d),.pointer (some x),.pointer (some e)] .returning w fun en u' w'=>en=.returned (.tuple #[])∧u'=.returning∧w'=w:=by
 refine callsD_of_wpS Tryz.func296 rfl fun c₀ cs hu=> ?_
 apply wpS_seq;apply wpS_region;simp[wpOpsS,go_sem,recoverD,hu,Tryz.ntmps296,Exit.thenS];apply wpS_seq;apply wpS_region;simp[wpOpsS,go_sem,hd,Exit.thenS];refine wpS_cond (t:=false) (by simp[Act.eval,Array.replicate]) ?_;simp only[Bool.false_eq_true,if_false];refine wpS_of_wp (wp_skip ?_)
 cases c₀
 simp_all [bodyPostS,results,Tryz.results296]
theorem catch_took_s (D X E : Nat) (v0 : Value) (n : Int) (hn : 1 ≤ n ∧ n ≤ 14) (ea : Int → Addr) (older : List PanicEntry) (w : World) (hd : Blk w D #[.bool false]) (hx : Blk w X #[v0]) (hz : Blk w E #[.nilIface]) (hne : X ≠ E) (he : Errs ea w) :
    CallsD Tryz.prog 296 #[.pointer (some ⟨D,0,none⟩),.pointer (some ⟨X,0,none⟩),.pointer (some ⟨E,0,none⟩)] (.panicking ({v:=errV (ea n),recovered:=false}::older)) w fun en u' w'=>
     en=.returned (.tuple #[])∧u'=.panicking ({v:=errV (ea n),recovered:=true}::older)∧∃w1,Below w.heap.size w w1∧w'=(w1.setCell ⟨X,0,none⟩ (.string ⟨#[]⟩)).setCell ⟨E,0,none⟩ (errV (ea n)):=by
 have HT:=qq (fun W hW=>told_of n hn ea W hW);have HE:=qq he;have hd0:w.cell? ⟨D,0,none⟩=some (.bool false):=hd.cell 0;have HX:=qq hx;have HZ:=qq hz;have hne2:E≠X:=fun e=>hne e.symm
 clear he hd hx hz hn;refine callsD_of_wpS Tryz.func296 rfl fun c₀ cs hu=> ?_
 apply wpS_seq;apply wpS_region;simp[wpOpsS,go_sem,recoverD,hu,Tryz.ntmps296,Exit.thenS];apply wpS_seq;apply wpS_region;simp[wpOpsS,go_sem,hd0,Exit.thenS];refine wpS_cond (t:=true) (by simp[Act.eval,Array.replicate]) ?_;simp only[if_true];refine wpS_of_wp ?_
 go_wp2_with (go_at_call 210;refine(HT.out _ HE.out).mono ?_;rintro e w1 ⟨rfl,hb1⟩;have HX1:=HX.out.below hb1;have HZ1:=HZ.out.below hb1;have x0:w1.cell? ⟨X,0,none⟩=some v0:=HX1.cell 0;have x1:=HX1.free 0;have z0:w1.cell? ⟨E,0,none⟩=some .nilIface:=HZ1.cell 0;have z1:=HZ1.free 0;clear HX1 HZ1);simp[bodyPostS,results,Tryz.results296];exact⟨w1,hb1,rfl⟩
theorem try_gives_act (p : Addr) (s : ByteArray) (w : World) (h : ∀ W, Below w.heap.size w W → Calls Tryz.prog 271 #[.pointer (some p)] W (Makes (.string s) W)) :
    Calls Tryz.prog 270 #[.func (.func 271) #[] #[.pointer (some p)]] w (Makes (.tuple #[.string s,.nilIface]) w):=by
 have hmf:∀(fn:Fn) (first cap:Array Value) (w:World),(Instr.makeFunc fn first cap).run Tryz.prog w=.ok (.func fn first cap) w:=fun _ _ _ _=>rfl
 have H:=qq h;clear h;go_enter_defers Tryz.func270,Tryz.ntmps270;go_wp2_with fail;refine(H.out _ (by go_grown)).mono ?_;rintro e w1 ⟨rfl,hb1⟩;have HX:=(((Blk.fresh w #[.string ⟨#[]⟩] 9 _ rfl).below (by go_grown)).below hb1:Blk w1 w.heap.size _)
 have HE:=(((Blk.fresh (w.alloc (.cells #[.string ⟨#[]⟩] 9)) #[.nilIface] 26 (w.heap.size+1) (by simp)).below (by go_grown)).below hb1:Blk w1 (w.heap.size+1) _)
 have HD:=((Blk.fresh ((w.alloc (.cells #[.string ⟨#[]⟩] 9)).alloc (.cells #[.nilIface] 26)) #[.bool false] 4 (w.heap.size+1+1) (by simp)).below hb1:Blk w1 (w.heap.size+1+1) _)
 have x0:w1.cell? ⟨w.heap.size,0,none⟩=some (.string ⟨#[]⟩):=HX.cell 0;have x1:=HX.free 0;have e0:w1.cell? ⟨w.heap.size+1,0,none⟩=some .nilIface:=HE.cell 0;have e1:=HE.free 0;have d0:w1.cell? ⟨w.heap.size+1+1,0,none⟩=some (.bool false):=HD.cell 0;have d1:=HD.free 0;clear HX HE HD;have HB:Below w.heap.size w w1:=below_then (by go_grown) hb1;go_wp2_with fail
 refine leaves_cons (f:=296) (args:= #[.pointer (some ⟨w.heap.size+1+1,0,none⟩),.pointer (some ⟨w.heap.size,0,none⟩),.pointer (some ⟨w.heap.size+1,0,none⟩)]) (by simp) (by simp[go_sem]) ?_;refine(catch_idle_s _ _ _ _ (by simp[go_sem,d0,x0,e0])).mono ?_;rintro e u' w'' ⟨rfl,rfl,rfl⟩;simp[Leaves,settle,results,Tryz.results270,go_sem,d0,x0,e0,d1,x1,e1]
 exact⟨rfl,(((HB.setCell (p:=⟨w.heap.size,0,none⟩) (Nat.le_refl _) _).setCell (p:=⟨w.heap.size+1+1,0,none⟩) (by dsimp only;omega) _).setCell (p:=⟨w.heap.size,0,none⟩) (Nat.le_refl _) _).setCell (p:=⟨w.heap.size+1,0,none⟩) (by dsimp only;omega) _⟩
theorem try_dies_act (p : Addr) (n : Int) (hn : 1 ≤ n ∧ n ≤ 14) (ea : Int → Addr) (w : World) (he : Errs ea w) (h : ∀ W, Below w.heap.size w W → Calls Tryz.prog 271 #[.pointer (some p)] W (Fails (errV (ea n)) W)) :
    Calls Tryz.prog 270 #[.func (.func 271) #[] #[.pointer (some p)]] w (Makes (.tuple #[.string ⟨#[]⟩,errV (ea n)]) w):=by
 have hmf:∀(fn:Fn) (first cap:Array Value) (w:World),(Instr.makeFunc fn first cap).run Tryz.prog w=.ok (.func fn first cap) w:=fun _ _ _ _=>rfl
 have H:=qq h;have HR:=qq he;clear h he;go_enter_defers Tryz.func270,Tryz.ntmps270;go_wp2_with fail;refine(H.out _ (by go_grown)).mono ?_;rintro e w1 ⟨rfl,hb1⟩;have HB:Below w.heap.size w w1:=below_then (by go_grown) hb1;have HX:=(((Blk.fresh w #[.string ⟨#[]⟩] 9 _ rfl).below (by go_grown)).below hb1:Blk w1 w.heap.size _)
 have HE:=(((Blk.fresh (w.alloc (.cells #[.string ⟨#[]⟩] 9)) #[.nilIface] 26 (w.heap.size+1) (by simp)).below (by go_grown)).below hb1:Blk w1 (w.heap.size+1) _)
 have HD:=((Blk.fresh ((w.alloc (.cells #[.string ⟨#[]⟩] 9)).alloc (.cells #[.nilIface] 26)) #[.bool false] 4 (w.heap.size+1+1) (by simp)).below hb1:Blk w1 (w.heap.size+1+1) _)
 have HER:=HR.out.below HB;refine leaves_cons (f:=296) (args:= #[.pointer (some ⟨w.heap.size+1+1,0,none⟩),.pointer (some ⟨w.heap.size,0,none⟩),.pointer (some ⟨w.heap.size+1,0,none⟩)]) (by simp) (by simp[go_sem]) ?_;refine(catch_took_s _ _ _ _ n hn ea _ _ HD HX HE (by omega) HER).mono ?_;rintro e u' w'' ⟨rfl,rfl,w2,hb2,rfl⟩;have x0:w1.cell? ⟨w.heap.size,0,none⟩=some (.string ⟨#[]⟩):=HX.cell 0
 have hx2:=HX.below hb2;have he2:=HE.below hb2;have x2:w2.cell? ⟨w.heap.size,0,none⟩=some (.string ⟨#[]⟩):=hx2.cell 0;have e2:w2.cell? ⟨w.heap.size+1,0,none⟩=some .nilIface:=he2.cell 0;have x3:=hx2.free 0;have e3:=he2.free 0;simp[Leaves,settle,results,Tryz.results270,go_sem,x2,e2,x3,e3]
 exact⟨rfl,((HB.trans (hb2.mono HB.size)).setCell (p:=⟨w.heap.size,0,none⟩) (Nat.le_refl _) _).setCell (p:=⟨w.heap.size+1,0,none⟩) (by dsimp only;omega) _⟩
def idOk (n q:Int):Bool:=decide (0≤n∧n≤3∧0≤q∧q≤999999)
def idText (n q:Int):Str:=97::(Lib.decDigits n.toNat ++46::Lib.decDigits q.toNat)
theorem idAct1_yes (n q:Int) (hn:0≤n∧n≤3) (hq:0≤q∧q≤999999) (b:Nat) (ea:Int→Addr) (w:World) (h:EnvS ea w) (hp:Blk w b #[n,q]):Calls Tryz.prog 271 #[.pointer (some ⟨b,0,none⟩)] w (Makes (.string (bs (idText n q))) w):=by
 have H1:=qq (fun W hW=>idNumber_yes n 3 hn.1 hn.2 (by omega) ea W hW);have H2:=qq (fun W hW=>idNumber_yes q 999999 hq.1 hq.2 (by omega) ea W hW);have hz1:(bs (Lib.decDigits n.toNat)).size≤6:=by rw[bs_size];exact dec_len 5 _ (by omega)
 have hz2:(bs (Lib.decDigits q.toNat)).size≤6:=by rw[bs_size];exact dec_len 5 _ (by omega)
 have hb1:(⟨#[97]⟩:ByteArray) ++bs (Lib.decDigits n.toNat)=bs (97::Lib.decDigits n.toNat):=by
  apply data_inj;simp[bs]
 have hb2:bs (97::Lib.decDigits n.toNat) ++(⟨#[46]⟩:ByteArray)=bs (97::(Lib.decDigits n.toNat ++ [46])):=by
  apply data_inj;simp[bs]
 have hb3:bs (97::(Lib.decDigits n.toNat ++ [46])) ++bs (Lib.decDigits q.toNat)=bs (idText n q):=by
  apply data_inj;simp[bs,idText]
 have hz3:(bs (97::Lib.decDigits n.toNat)).size≤7:=by rw[bs_size] at hz1⊢;simp only[List.length_cons];omega
 have hz4:(bs (97::(Lib.decDigits n.toNat ++ [46]))).size≤8:=by rw[bs_size] at hz1⊢;simp only[List.length_cons,List.length_append,List.length_nil];omega
 have hl1:¬9223372036854775807<1+(bs (Lib.decDigits n.toNat)).size:=by omega
 have hl2:¬9223372036854775807<(bs (97::Lib.decDigits n.toNat)).size+1:=by omega
 have hl3:¬9223372036854775807<(bs (97::(Lib.decDigits n.toNat ++ [46]))).size+(bs (Lib.decDigits q.toNat)).size:=by omega
 clear hz1 hz2 hz3 hz4;have HE:=qq h.drew';have HK:=qq hp.drew;have HB:=qq (Below.refl w.heap.size w).drew;clear h hp hn hq;go_enter Tryz.func271,Tryz.ntmps271;go_wp2_with fail;refine wp_region_held_drew (S:=fun w'=>w'.cell? ⟨b,0,none⟩=some (.int .i64 n)∧w'.cell? ⟨b,1,none⟩=some (.int .i64 q)) (by kernel_rfl) ⟨HK.out.cell 0,HK.out.cell 1⟩ (fun hHeld=> ?_)
 refine takeU (d:=some 2) 0 rfl rfl hHeld (fun w' hS'=>by go_simp;(try rfl)) ?_;simp only[puts];refine takeU (d:=some 3) 1 rfl rfl hHeld (fun w' hS'=>by go_simp;(try rfl)) ?_;simp only[puts];refine takeU (d:=some 7) 5 rfl rfl hHeld (fun w' hS'=>by go_simp;(try rfl)) ?_;simp only[puts];refine takeU (d:=some 8) 6 rfl rfl hHeld (fun w' hS'=>by go_simp;(try rfl)) ?_;simp only[puts]
 refine wpAnyH_call (d:=some 4) 2 272 _ _ [.int .i64 n,.int .i64 3] rfl rfl (by kernel_rfl) rfl (enters_of Tryz.func272 (by kernel_rfl) rfl) (by rfl) (by rfl) ?_;refine(H1.out _ HE.out).mono ?_;rintro e w5 ⟨rfl,hb1⟩;have HB:=qq (below_then HB.out hb1);have HK:=qq (HK.out.below hb1);have HE:=qq (HE.out.below hb1)
 have hHeld:=(⟨HK.out.cell 0,HK.out.cell 1⟩:(fun w':World=>w'.cell? ⟨b,0,none⟩=some (.int .i64 n)∧w'.cell? ⟨b,1,none⟩=some (.int .i64 q)) w5)
 refine⟨_,rfl,_,fun _ h=>h,hHeld,fun hHeld=> ?_⟩;simp only[Act.put,puts];refine takeU (d:=some 5) 3 rfl rfl hHeld (fun w' hS'=>by go_simp;(try rfl)) ?_;simp only[puts];refine takeU (d:=some 6) 4 rfl rfl hHeld (fun w' hS'=>by go_simp;(try rfl)) ?_;simp only[puts]
 refine wpAnyH_call (d:=some 9) 7 272 _ _ [.int .i64 q,.int .i64 999999] rfl rfl (by kernel_rfl) rfl (enters_of Tryz.func272 (by kernel_rfl) rfl) (by rfl) (by rfl) ?_;refine(H2.out _ HE.out).mono ?_;rintro e w5 ⟨rfl,hb1⟩;have HB:=qq (below_then HB.out hb1);have HK:=qq (HK.out.below hb1);have HE:=qq (HE.out.below hb1)
 have hHeld:=(⟨HK.out.cell 0,HK.out.cell 1⟩:(fun w':World=>w'.cell? ⟨b,0,none⟩=some (.int .i64 n)∧w'.cell? ⟨b,1,none⟩=some (.int .i64 q)) w5)
 refine⟨_,rfl,_,fun _ h=>h,hHeld,fun hHeld=> ?_⟩;simp only[Act.put,puts];refine takeU (d:=some 10) 8 rfl rfl hHeld (fun w' hS'=>by go_simp;(try rfl)) ?_;simp only[puts];refine takeU (d:=some 1) 9 rfl rfl hHeld (fun w' hS'=>by go_simp;(try rfl)) ?_;simp only[puts];refine wpAnyH_done (by kernel_rfl) ?_ _;go_wp2_with fail;go_ret;exact⟨rfl,HB.out⟩
theorem idAct1_no1 (n q:Int) (hn:n<0∨3<n) (b:Nat) (ea:Int→Addr) (w:World) (h:EnvS ea w) (hp:Blk w b #[n,q]):Calls Tryz.prog 271 #[.pointer (some ⟨b,0,none⟩)] w (Fails (errV (ea 1)) w):=by
 have H1:=qq (fun W hW=>idNumber_no n 3 hn ea W hW);have HE:=qq h.drew';have HK:=qq hp.drew;have HB:=qq (Below.refl w.heap.size w).drew;clear h hp hn;go_enter Tryz.func271,Tryz.ntmps271;go_wp2_with fail;refine wp_region_held_drew (S:=fun w'=>w'.cell? ⟨b,0,none⟩=some (.int .i64 n)∧w'.cell? ⟨b,1,none⟩=some (.int .i64 q)) (by kernel_rfl) ⟨HK.out.cell 0,HK.out.cell 1⟩ (fun hHeld=> ?_)
 refine takeU (d:=some 2) 0 rfl rfl hHeld (fun w' hS'=>by go_simp;(try rfl)) ?_;simp only[puts];refine takeU (d:=some 3) 1 rfl rfl hHeld (fun w' hS'=>by go_simp;(try rfl)) ?_;simp only[puts];refine takeU (d:=some 7) 5 rfl rfl hHeld (fun w' hS'=>by go_simp;(try rfl)) ?_;simp only[puts];refine takeU (d:=some 8) 6 rfl rfl hHeld (fun w' hS'=>by go_simp;(try rfl)) ?_;simp only[puts]
 refine wpAnyH_die [{v:=errV (ea 1),recovered:=false}] 2 272 _ _ [.int .i64 n,.int .i64 3] rfl (by kernel_rfl) rfl (enters_of Tryz.func272 (by kernel_rfl) rfl) (by rfl) (by rfl) ?_;refine(H1.out _ HE.out.e).mono ?_;rintro e w6 ⟨rfl,hb6⟩;exact⟨rfl,rfl,rfl,below_then HB.out hb6⟩
theorem idAct1_no2 (n q:Int) (hn:0≤n∧n≤3) (hq:q<0∨999999<q) (b:Nat) (ea:Int→Addr) (w:World) (h:EnvS ea w) (hp:Blk w b #[n,q]):Calls Tryz.prog 271 #[.pointer (some ⟨b,0,none⟩)] w (Fails (errV (ea 1)) w):=by
 have H1:=qq (fun W hW=>idNumber_yes n 3 hn.1 hn.2 (by omega) ea W hW);have H2:=qq (fun W hW=>idNumber_no q 999999 hq ea W hW);have hz1:(bs (Lib.decDigits n.toNat)).size≤6:=by rw[bs_size];exact dec_len 5 _ (by omega)
 have hb1:(⟨#[97]⟩:ByteArray) ++bs (Lib.decDigits n.toNat)=bs (97::Lib.decDigits n.toNat):=by
  apply data_inj;simp[bs]
 have hb2:bs (97::Lib.decDigits n.toNat) ++(⟨#[46]⟩:ByteArray)=bs (97::(Lib.decDigits n.toNat ++ [46])):=by
  apply data_inj;simp[bs]
 have hz3:(bs (97::Lib.decDigits n.toNat)).size≤7:=by rw[bs_size] at hz1⊢;simp only[List.length_cons];omega
 have hl1:¬9223372036854775807<1+(bs (Lib.decDigits n.toNat)).size:=by omega
 have hl2:¬9223372036854775807<(bs (97::Lib.decDigits n.toNat)).size+1:=by omega
 clear hz1 hz3;have HE:=qq h.drew';have HK:=qq hp.drew;have HB:=qq (Below.refl w.heap.size w).drew;clear h hp hn hq;go_enter Tryz.func271,Tryz.ntmps271;go_wp2_with fail;refine wp_region_held_drew (S:=fun w'=>w'.cell? ⟨b,0,none⟩=some (.int .i64 n)∧w'.cell? ⟨b,1,none⟩=some (.int .i64 q)) (by kernel_rfl) ⟨HK.out.cell 0,HK.out.cell 1⟩ (fun hHeld=> ?_)
 refine takeU (d:=some 2) 0 rfl rfl hHeld (fun w' hS'=>by go_simp;(try rfl)) ?_;simp only[puts];refine takeU (d:=some 3) 1 rfl rfl hHeld (fun w' hS'=>by go_simp;(try rfl)) ?_;simp only[puts];refine takeU (d:=some 7) 5 rfl rfl hHeld (fun w' hS'=>by go_simp;(try rfl)) ?_;simp only[puts];refine takeU (d:=some 8) 6 rfl rfl hHeld (fun w' hS'=>by go_simp;(try rfl)) ?_;simp only[puts]
 refine wpAnyH_call (d:=some 4) 2 272 _ _ [.int .i64 n,.int .i64 3] rfl rfl (by kernel_rfl) rfl (enters_of Tryz.func272 (by kernel_rfl) rfl) (by rfl) (by rfl) ?_;refine(H1.out _ HE.out).mono ?_;rintro e w5 ⟨rfl,hb1⟩;have HB:=qq (below_then HB.out hb1);have HK:=qq (HK.out.below hb1);have HE:=qq (HE.out.below hb1)
 have hHeld:=(⟨HK.out.cell 0,HK.out.cell 1⟩:(fun w':World=>w'.cell? ⟨b,0,none⟩=some (.int .i64 n)∧w'.cell? ⟨b,1,none⟩=some (.int .i64 q)) w5)
 refine⟨_,rfl,_,fun _ h=>h,hHeld,fun hHeld=> ?_⟩;simp only[Act.put,puts];refine takeU (d:=some 5) 3 rfl rfl hHeld (fun w' hS'=>by go_simp;(try rfl)) ?_;simp only[puts];refine takeU (d:=some 6) 4 rfl rfl hHeld (fun w' hS'=>by go_simp;(try rfl)) ?_;simp only[puts]
 refine wpAnyH_die [{v:=errV (ea 1),recovered:=false}] 7 272 _ _ [.int .i64 q,.int .i64 999999] rfl (by kernel_rfl) rfl (enters_of Tryz.func272 (by kernel_rfl) rfl) (by rfl) (by rfl) ?_;refine(H2.out _ HE.out.e).mono ?_;rintro e w6 ⟨rfl,hb6⟩;exact⟨rfl,rfl,rfl,below_then HB.out hb6⟩
theorem idRight_of (n q:Int) (ea:Int→Addr) (w:World) (h:EnvS ea w):Calls Tryz.prog 141 #[.agg #[n,q]] w (Makes (.bool (idOk n q)) w):=by
 have hA:∀W,EnvS ea W→∃s,Calls Tryz.prog 226 #[.agg #[n,q]] W (Makes (.tuple #[.string s,if idOk n q=true then .nilIface else errV (ea 1)]) W):=by
  intro W hW;have hmf:∀(fn:Fn) (first cap:Array Value) (w:World),(Instr.makeFunc fn first cap).run Tryz.prog w=.ok (.func fn first cap) w:=fun _ _ _ _=>rfl
  have hB:Below W.heap.size W (W.alloc (.cells #[n,q] 36)):=(Below.refl _ _).alloc (Nat.le_refl _) _;have hE:=hW.below hB;have hK:=Blk.fresh W #[n,q] 36 _ rfl;by_cases hi:0≤n∧n≤3∧0≤q∧q≤999999
  · have hok:idOk n q=true:=decide_eq_true hi;rw[hok];refine⟨bs (idText n q),?_⟩;have HT:=qq (try_gives_act ⟨W.heap.size,0,none⟩ _ _ (fun X hX=>idAct1_yes n q ⟨hi.1,hi.2.1⟩ hi.2.2 _ ea X (hE.below hX) (hK.below hX)));clear hW hE hK hi hok;go_enter Tryz.func226,Tryz.ntmps226;go_wp2_with fail;refine HT.out.mono ?_;rintro e w1 ⟨rfl,hb1⟩;go_wp2_with fail;go_ret2;exact⟨rfl,below_then hB hb1⟩
  · have hok:idOk n q=false:=decide_eq_false hi;rw[hok];refine⟨⟨#[]⟩,?_⟩;have HT:=qq (try_dies_act ⟨W.heap.size,0,none⟩ 1 (by omega) ea _ hE.e (fun X hX=>by
      by_cases hn:0≤n∧n≤3
      · exact idAct1_no2 n q hn (by omega) _ ea X (hE.below hX) (hK.below hX)
      · exact idAct1_no1 n q (by omega) _ ea X (hE.below hX) (hK.below hX)))
    clear hW hE hK hi hok;go_enter Tryz.func226,Tryz.ntmps226;go_wp2_with fail;refine HT.out.mono ?_;rintro e w1 ⟨rfl,hb1⟩;go_wp2_with fail;go_ret2;exact⟨rfl,below_then hB hb1⟩
 have hB:Below w.heap.size w (w.alloc (.cells #[n,q] 36)):=(Below.refl _ _).alloc (Nat.le_refl _) _;obtain⟨s,hs⟩:=hA _ (h.below hB);have HS:=qq hs;clear h hs hA
 cases hk:idOk n q
 all_goals
  rw[hk] at HS;clear hk;go_enter Tryz.func141,Tryz.ntmps141;go_wp2_with fail;refine HS.out.mono ?_;rintro e w1 ⟨rfl,hb1⟩;go_wp2_with fail;go_ret;exact⟨rfl,below_then hB hb1⟩
structure SReg where
 n:Int
 p:Int
 seat:MSeat
 deriving DecidableEq
structure SAct where
 an:Int
 aq:Int
 oc:Int
 dp:Int
 ex:Nat
 pa:Int
 de:Int
 regs:List SReg
 deriving DecidableEq
structure SPart where
 an:Int
 aq:Int
 rg:Int
 seat:MSeat
 deriving DecidableEq
structure Sto where
 node:Int
 next:Int
 acts:List SAct
 parts:List SPart
structure SFact where
 k:Int
 an:Int
 aq:Int
 rg:Int
 nd:Int
 pt:Int
 pr:Int
 oc:Int
 dp:Int
 pa:Int
 st:Int
 hw:Int
 de:Int
 ex:Nat
def ctxOk (n q oc dp:Int) (ex:Nat):Bool:=fdelay ex && decide (fplain ex=ex) && idOk n q && decide ((oc=1∨oc=2)∧0≤dp∧dp≤3)
def stOk (s h:Int):Bool:=if s=14 then decide (h=1∨4≤h∧h≤8) else decide (1≤s∧s≤13∧h=0)
def fok (f:SFact):Bool:=
 if f.k=1 then ctxOk f.an f.aq f.oc f.dp f.ex && decide (0≤f.pa∧f.pa≤8) && decide (f.rg=0∧f.nd=0∧f.pt=0∧f.pr=0∧f.st=0∧f.hw=0∧f.de=0)
 else decide (f.ex=0∧f.oc=0∧f.dp=0∧f.pa=0) && (
   if f.k=2 then idOk f.an f.aq && decide (0≤f.rg∧f.rg≤5∧0≤f.nd∧f.nd≤3∧0≤f.pt∧f.pt≤7∧1≤f.pr∧f.pr≤2) && decide (f.st=0∧f.hw=0∧f.de=0)
   else if f.k=3 then idOk f.an f.aq && decide (0≤f.rg∧f.rg≤5) && stOk f.st f.hw && decide (f.nd=0∧f.pt=0∧f.pr=0∧f.de=0)
   else if f.k=4 then idOk f.an f.aq && decide (1≤f.de∧f.de≤2) && decide (f.rg=0∧f.nd=0∧f.pt=0∧f.pr=0∧f.st=0∧f.hw=0)
   else if f.k=5 then idOk f.an f.aq && decide (f.rg=0∧f.nd=0∧f.pt=0∧f.pr=0∧f.st=0∧f.hw=0∧f.de=0)
   else if f.k=6 then idOk f.an f.aq && decide (0≤f.pt∧f.pt≤7∧1≤f.pr∧f.pr≤2) && decide (f.rg=0∧f.nd=0∧f.st=0∧f.hw=0∧f.de=0)
   else if f.k=7 then decide (0≤f.pt∧f.pt≤7∧0≤f.rg∧f.rg≤5) && decide (f.an=0∧f.aq=0∧f.nd=0∧f.pr=0∧f.st=0∧f.hw=0∧f.de=0)
   else if f.k=8 then decide (0≤f.pt∧f.pt≤7) && stOk f.st f.hw && decide (f.an=0∧f.aq=0∧f.rg=0∧f.nd=0∧f.pr=0∧f.de=0)
   else false)
def sturn (x:MSeat) (s h:Int):Option MSeat:=if x.s=14∨mRight ⟨x.p,x.d,s,h⟩=false then none else some ⟨x.p,x.d,s,h⟩
def sfind (S:Sto) (n q:Int):Option Nat:=S.acts.findIdx? fun a=>decide (a.an=n∧a.aq=q)
def schild (S:Sto) (pa:Int):Option Nat:=S.acts.findIdx? fun a=>decide (a.pa=pa)
def sact (a:SAct) (f:SFact):Option SAct:=
 if f.k=2 then(if f.rg≠a.regs.length∨a.de≠0∨(a.regs.any fun r=>decide (r.n=f.nd∧r.p=f.pt))=true then none else some {a with regs:=a.regs ++ [⟨f.nd,f.pt,⟨f.pr,1,1,0⟩⟩]})
 else if f.k=3 then(match a.regs[f.rg.toNat]? with
   | none=>none
   | some r=>(sturn r.seat f.st f.hw).map fun t=>{a with regs:=a.regs.set f.rg.toNat {r with seat:=t}})
 else if a.oc≠1∨a.de≠0 then none else some {a with de:=f.de}
def sput (S:Sto) (f:SFact):Option Sto:=
 if f.k=1 then(if f.an≠S.node∨f.aq<S.next∨8≤S.acts.length∨(0<f.pa∧((S.parts.length:Int)<f.pa∨(schild S f.pa).isSome=true)) then none
   else some {S with next:=f.aq+1,acts:=S.acts ++ [⟨f.an,f.aq,f.oc,f.dp,f.ex,f.pa,0,[]⟩]})
 else if f.k=6 then(if f.pt≠S.parts.length then none else some {S with parts:=S.parts ++ [⟨f.an,f.aq,-1,⟨f.pr,2,1,0⟩⟩]})
 else if f.k=7∨f.k=8 then(match S.parts[f.pt.toNat]? with
   | none=>none
   | some p=>if f.k=8 then(sturn p.seat f.st f.hw).map fun t=>{S with parts:=S.parts.set f.pt.toNat {p with seat:=t}}
     else if p.rg≠ -1 then none else some {S with parts:=S.parts.set f.pt.toNat {p with rg:=f.rg}})
 else match sfind S f.an f.aq with
  | none=>none
  | some i=>match S.acts[i]? with
   | none=>none
   | some a=>if f.k=5 then(if(a.regs.any fun r=>decide (r.seat.s≠14))=true then none else some {S with acts:=S.acts.take i ++S.acts.drop (i+1)})
    else(sact a f).map fun b=>{S with acts:=S.acts.set i b}
def sapply (S:Sto) (f:SFact):Sto×Int:=if fok f=false then(S,4) else match sput S f with
 | none=>(S,9)
 | some T=>(T,0)
end Go.Proofs.YtlkajejbfojkeaaGreatDoor
