/- TabN, RfcD -/
import Derived.Test.YtlkajejbfojkeaaGreatDoorKFbGToTabM
import Derived.Deep.CutRange
set_option linter.unusedSimpArgs false
set_option linter.unusedVariables false
set_option maxRecDepth 100000
set_option maxHeartbeats 16000000
namespace Go.Proofs.YtlkajejbfojkeaaGreatDoor
open Go.RowKit
def ReadI (w:World) (v:Value) (xs:List Int):Prop:=∃a cap,v=.slice a xs.length cap∧(xs≠[]→∃g,a=some ⟨g,0,none⟩∧g<w.heap.size∧IntsAt w g xs)
theorem OwnI.read {B:Nat} {v:Value} {xs:List Int} {w:World} (h:OwnI B v xs w):ReadI w v xs:=by
 rcases h.2 with⟨rfl,h0⟩ | ⟨g,cap,cur,rfl,_,hb,_,_,_,_⟩
 · exact⟨none,0,by rw[h0],fun hne=>absurd (List.eq_nil_of_length_eq_zero h0) hne⟩
 · refine⟨_,cap,rfl,fun _=>⟨g,rfl,(Array.getElem?_eq_some_iff.1 hb).1,fun i hi=> ?_⟩⟩;have h':w.ownsRow B 3 1 (.slice (some ⟨g,0,none⟩) xs.length cap) xs.length (xs.map (Value.int .i64)):=h;rw[h'.cellAt i (by simpa using hi)];simp[List.getElem?_eq_getElem hi]
theorem ReadI.below {w w':World} {v:Value} {xs:List Int} (h:ReadI w v xs) (hb:Below w.heap.size w w'):ReadI w' v xs:=by
 obtain⟨a,cap,rfl,h⟩:=h;refine⟨a,cap,rfl,fun hne=> ?_⟩;obtain⟨g,h1,h2,h3⟩:=h hne;exact⟨g,h1,Nat.lt_of_lt_of_le h2 hb.size,fun i hi=>(hb.cell (p:=⟨g,i,none⟩) h2).trans (h3 i hi)⟩
theorem Draws.below {v:Value} {w w':World} {e:Ending} (h:Draws v w e w'):e=.returned v∧Below w.heap.size w w':=by
 obtain⟨h1,n,rfl⟩:=h;exact⟨h1,Below.drewN (Below.refl _ _) n⟩
theorem in_any (xs : List Int) (n : Int) (v : Value) (w : World) (h : ReadI w v xs) (hl : xs.length ≤ 1000) :
    Calls Tryz.prog 199 #[v,.int .i64 n] w (Gives (.bool (xs.contains n)) w):=by
 obtain⟨a1,c1,rfl,h1⟩:=h;by_cases hne:xs=[]
 · subst hne;clear h1;simp only[List.length_nil];go_enter Tryz.func199,Tryz.ntmps199;go_wp2;refine wp_loop_rounds 1 ?_;rw[rounds_succ];go_wp2;go_ret;exact⟨rfl,rfl⟩
 · obtain⟨g1,rfl,_,i1⟩:=h1 hne;have I1:=qq i1;clear i1 h1 hne;go_enter Tryz.func199,Tryz.ntmps199;go_wp2;go_loop [9] (fun i=>∃k:Nat,k≤xs.length∧i=.int .i64 k∧Hid (∀j,(h:j<xs.length)→j<k→xs[j]≠n)) (fun i=>xs.length - (intOf i).toNat)
   case atStart=>exact⟨0,by omega,rfl,qq (fun j _ hj=>absurd hj (Nat.not_lt_zero _))⟩
   case round=>
    obtain⟨k,hk,rfl,HN⟩:=hrel;by_cases hlt:k<xs.length
    · have a1:=I1.out k hlt;by_cases hx:xs[k]=n
      · have hmem:xs.contains n=true:=by simp only[List.contains_eq_mem,decide_eq_true_eq];rw[←hx];exact List.getElem_mem _
        rw[hx] at a1;have HM:=qq hmem;clear hmem hx;go_wp2;go_ret;exact⟨ret_bool (by have:=HM.out;simp at this;simp[this]),rfl⟩
      · have hx':(xs[k]==n)=false:=by simpa using hx
        obtain⟨x,hxk⟩:∃x,x=xs[k]:=⟨_,rfl⟩
        rw[←hxk] at a1 hx';have HX:=qq hx;clear hx hxk;go_wp2;go_round
        case rel=>
         refine⟨k+1,by omega,by go_num,qq (fun j h hj=> ?_)⟩;rcases Nat.lt_succ_iff_lt_or_eq.1 hj with h' | rfl
         · exact HN.out j h h'
         · exact HX.out
        case measure=>simp[intOf];omega
    · have hmem:xs.contains n=false:=by
       simp only[List.contains_eq_mem,decide_eq_false_iff_not];intro hm;obtain⟨i,hi,rfl⟩:=List.mem_iff_getElem.1 hm;exact HN.out i hi (by omega) rfl
      have HM:=qq hmem;clear hmem;go_wp2;go_ret;exact⟨ret_bool (by have:=HM.out;simp at this;simp[this]),rfl⟩
theorem fz_no {f:SFact} {ns:List Int} {k:Nat} (h1:k<13) (h2:k≠0) (h3:(fnums f).getD k 0≠0) (h4:ns.contains (k:Int)=false):fzero f ns=false:=by
 unfold fzero;rw[List.all_eq_false];refine⟨k,List.mem_range.2 h1,?_⟩;show ¬((k==0 || ((fnums f).getD k 0==0 || ns.contains (k:Int)))=true)
 rw[beq_eq_false_iff_ne.2 h2,beq_eq_false_iff_ne.2 h3,h4];simp
theorem fz_yes {f:SFact} {ns:List Int} (h:∀k:Nat,k<13→k=0∨(fnums f).getD k 0=0∨ns.contains (k:Int)=true):fzero f ns=true:=by
 unfold fzero;rw[List.all_eq_true];intro k hk;show(k==0 || ((fnums f).getD k 0==0 || ns.contains (k:Int)))=true
 rcases h k (List.mem_range.1 hk) with h1 | h1 | h1
 · rw[beq_iff_eq.2 h1];rfl
 · rw[beq_iff_eq.2 h1];simp
 · rw[h1];simp
theorem num_cells {w:World} {g:Nat} {f:SFact} (h:Blk w g #[f.k,f.an,f.aq,f.rg,f.nd,f.pt,f.pr,f.oc,f.dp,f.pa,f.st,f.hw,f.de]):∀k:Nat,k<13→w.cell? ⟨g,k,none⟩=some (.int .i64 ((fnums f).getD k 0)):=by
 intro k hk;rw[h.cell]
 match k,hk with
 | 0,_=>rfl
 | 1,_=>rfl
 | 2,_=>rfl
 | 3,_=>rfl
 | 4,_=>rfl
 | 5,_=>rfl
 | 6,_=>rfl
 | 7,_=>rfl
 | 8,_=>rfl
 | 9,_=>rfl
 | 10,_=>rfl
 | 11,_=>rfl
 | 12,_=>rfl
theorem read_lit {w:World} {b:Nat} {xs:List Int} (h:Blk w b (xs.map (Value.int .i64)).toArray):ReadI w (.slice (some ⟨b,0,none⟩) xs.length xs.length) xs:=
 ⟨_,_,rfl,fun _=>⟨b,rfl,h.lt,fun i hi=>by rw[h.cell];simp[hi]⟩⟩
theorem rr14_2 (an aq rg nd pt pr oc dp pa st hw de : Int) (ex : Nat) (hx : F64 ex) (bi b4 b5 b6 bn bs bd t1 t2 u1 u2 : Bool) (h4 : b4 = decide (0 ≤ rg ∧ rg ≤ 5)) (h5 : b5 = decide (0 ≤ pt ∧ pt ≤ 7)) (p1 : (pr == 1) = t1) (p2 : (pr == 2) = t2) (h6 : b6 = (t1 || t2)) (hn : bn = decide (0 ≤ nd ∧ nd ≤ 3)) (e1 : (de == 1) = u1) (e2 : (de == 2) = u2) (hd : bd = (u1 || u2)) (w : World) (hI : ∀ W, Calls Tryz.prog 197 #[.agg #[an, aq]] W (Makes (.bool bi) W)) (hS : ∀ W, Calls Tryz.prog 198 #[.int .i64 st, .int .i64 hw] W (Gives (.bool bs) W)) :
    Calls Tryz.prog 90 #[.agg #[.int .i64 2,an,aq,rg,nd,pt,pr,oc,dp,pa,st,hw,de,.float .f64 ex]] w (Makes (.bool (fzero ⟨2,an,aq,rg,nd,pt,pr,oc,dp,pa,st,hw,de,ex⟩ [1,2,3,4,5,6] && ((bi && b4 && bn && b5 && b6) && decide (ex=0)))) w):=by
 have HI:=qq hI;have HS:=qq hS;have H4:=qq h4;have H5:=qq h5;have H6:=qq h6;have HN:=qq hn;have HD:=qq hd;have HM:=qq (fun W=>numbers_of ⟨2,an,aq,rg,nd,pt,pr,oc,dp,pa,st,hw,de,ex⟩ W)
 have HZ:=qq (fun(k:Nat) (h1:k<13) (h2:k≠0) (h3:(fnums ⟨2,an,aq,rg,nd,pt,pr,oc,dp,pa,st,hw,de,ex⟩).getD k 0≠0) (h4:([1,2,3,4,5,6]:List Int).contains (k:Int)=false)=>fz_no (f:=⟨2,an,aq,rg,nd,pt,pr,oc,dp,pa,st,hw,de,ex⟩) h1 h2 h3 h4)
 have HY:=qq (fun(h:∀k:Nat,k<13→k=0∨(fnums ⟨2,an,aq,rg,nd,pt,pr,oc,dp,pa,st,hw,de,ex⟩).getD k 0=0∨([1,2,3,4,5,6]:List Int).contains (k:Int)=true)=>fz_yes (f:=⟨2,an,aq,rg,nd,pt,pr,oc,dp,pa,st,hw,de,ex⟩) (ns:=[1,2,3,4,5,6]) h);have HA:=qq (fun W=>raw_of ex W);have HX:=qq (fun W=>rright09_of an aq oc dp ex hx W);have hex:((ex:Int)==0)=decide (ex=0):=by rw[Bool.eq_iff_iff];simp
 clear hI hS h4 h5 h6 hn hd hx;dsimp only[factV,factC] at HM;obtain⟨bx,hbx⟩:∃bx,bx=decide (ex=0):=⟨_,rfl⟩
 rw[←hbx] at hex⊢;have HBX:=qq hbx;clear hbx;obtain⟨E,hE⟩:∃E,E=(bi && b4 && bn && b5 && b6):=⟨_,rfl⟩
 rw[←hE];have HE:=qq hE;clear hE;obtain⟨Z,hZ⟩:∃Z,Z=fzero ⟨2,an,aq,rg,nd,pt,pr,oc,dp,pa,st,hw,de,ex⟩ [1,2,3,4,5,6]:=⟨_,rfl⟩
 rw[←hZ] at HZ HY⊢;clear hZ;obtain⟨N,hN⟩:∃N,N=fnums ⟨2,an,aq,rg,nd,pt,pr,oc,dp,pa,st,hw,de,ex⟩:=⟨_,rfl⟩
 rw[←hN] at HZ HY;have HNN:=qq hN;clear hN;go_enter Tryz.func90,Tryz.ntmps90;go_upto_region 2 with(go_at_call 197;refine(HI.out _).mono ?_;rintro e w1 ⟨rfl,hb1⟩)
 have HK1:=qq ((Blk.fresh w #[.int .i64 2,an,aq,rg,nd,pt,pr,oc,dp,pa,st,hw,de,.float .f64 ex] 42 _ rfl).below hb1);have B1:Below w.heap.size w w1:=below_then (by go_grown) hb1;have hz1:=hb1.size;simp only[World.size_alloc] at hz1;have hs1:w.heap.size<w1.heap.size:=by omega
 have hs3:w.heap.size<w1.heap.size+1:=by omega
 obtain⟨q,qf⟩:=HK1.out.out;clear hb1;go_cut [4] from 14 to 21 (fun s4 wx=>s4=.bool b4∧w1=wx)
 case first=>
  go_wp2_with fail
  all_goals go_meet
  all_goals (refine⟨?_,rfl⟩;rw[H4.out];congr 1;(try simp only[*]);(try rw[Bool.eq_iff_iff]);(try simp);(try omega))
 case rest=>
  obtain⟨rfl,rfl⟩:=hcut;go_upto_region 3 with fail
  go_cut [5] from 22 to 29 (fun s5 wx=>s5=.bool b5∧w1=wx)
  case first=>
   go_wp2_with fail
   all_goals go_meet
   all_goals (refine⟨?_,rfl⟩;rw[H5.out];congr 1;(try simp only[*]);(try rw[Bool.eq_iff_iff]);(try simp);(try omega))
  case rest=>
   obtain⟨rfl,rfl⟩:=hcut;go_upto_region 4 with fail
   go_cut [6] from 30 to 37 (fun s6 wx=>s6=.bool b6∧w1=wx)
   case first=>
    go_wp2_with fail
    all_goals go_meet
    all_goals (refine⟨?_,rfl⟩;rw[H6.out];congr 1;(try simp only[*]);(try rw[Bool.eq_iff_iff]);(try simp);(try omega))
   case rest=>
    obtain⟨rfl,rfl⟩:=hcut;have HK2:=qq ((HK1.out.alloc (.cells #[] 3)).alloc (.cells #[.int .i64 1,.int .i64 2,.int .i64 3,.int .i64 4,.int .i64 5,.int .i64 6] 3));have HL2:=qq (read_lit (xs:=[1,2,3,4,5,6]) (Blk.fresh (w1.alloc (.cells #[] 3)) #[.int .i64 1,.int .i64 2,.int .i64 3,.int .i64 4,.int .i64 5,.int .i64 6] 3 (w1.heap.size+1) (by simp)))
    have B2:Below w.heap.size w ((w1.alloc (.cells #[] 3)).alloc (.cells #[.int .i64 1,.int .i64 2,.int .i64 3,.int .i64 4,.int .i64 5,.int .i64 6] 3)):=by go_grown
    go_wp2_with (first | (go_at_call 119;refine(HM.out _).mono ?_;rintro e w5 ⟨g,rfl,hb5,hbe⟩;have HK5:=qq (HK2.out.below hbe);have HL5:=qq (HL2.out.below hbe);have B5:Below w.heap.size w w5:=below_then B2 hbe;have HM5:=qq hb5;clear hb5 hbe q qf;obtain⟨q,qf⟩:=HK5.out.out))
    all_goals
     have HC:=qq (num_cells (f:=⟨2,an,aq,rg,nd,pt,pr,oc,dp,pa,st,hw,de,ex⟩) HM5.out);rw[←HNN.out] at HC;clear HM5;go_loop [150] (fun i=>∃k:Nat,k≤13∧i=.int .i64 (k:Nat)∧Hid (∀j:Nat,j<k→j=0∨N.getD j 0=0∨([1,2,3,4,5,6]:List Int).contains (j:Int)=true)) (fun i=>13 - (intOf i).toNat)
     case atStart=>exact⟨0,by omega,by first | rfl | go_num,qq (fun j h=>absurd h (by omega))⟩
     case round=>
      obtain⟨k,hk,rfl,HJ⟩:=hrel;by_cases hlt:k<13
      · have c0:=HC.out k hlt;obtain⟨x,hxk⟩:∃x,x=N.getD k 0:=⟨_,rfl⟩
        rw[←hxk] at c0;have HXK:=qq hxk;have hi0:(0:Int)≤(k:Int):=by omega
        have hi1:(k:Int)<13:=by omega
        have hik:=in_any [1,2,3,4,5,6] (k:Int) _ w5 HL5.out (by decide);clear hxk;by_cases h0:k=0
        · subst h0;clear hik;go_wp2_with fail;go_round
          case rel=>exact⟨1,by omega,by first | rfl | go_num,qq (fun j h=> .inl (by omega))⟩
          case measure=>simp[intOf]
        · have hkp:(0:Int)<(k:Int):=by omega
          by_cases hx0:x=0
          · have t0:(x !=0)=false:=by simpa using hx0
            have HX0:=qq hx0;clear hx0 hik;go_wp2_with fail;go_round
            case rel=>exact⟨k+1,by omega,by go_num,qq (fun j h=>by rcases Nat.lt_succ_iff_lt_or_eq.1 h with h1 | rfl;exact HJ.out j h1;exact .inr (.inl (by rw[←HXK.out];exact HX0.out)))⟩
            case measure=>(simp[intOf];omega)
          · have t0:(x !=0)=true:=by simpa using hx0
            have HX0:=qq hx0;clear hx0;obtain⟨ct,hct⟩:∃ct,ct=([1,2,3,4,5,6]:List Int).contains (k:Int):=⟨_,rfl⟩
            rw[←hct] at hik;have HCT:=qq hct;have HIK:=qq hik;clear hct hik
            cases ct with
            | true=>
             go_wp2_with (go_at_call 199;refine HIK.out.mono ?_;rintro e w6 ⟨rfl,rfl⟩);go_round
             case rel=>exact⟨k+1,by omega,by go_num,qq (fun j h=>by rcases Nat.lt_succ_iff_lt_or_eq.1 h with h1 | rfl;exact HJ.out j h1;exact .inr (.inr HCT.out.symm))⟩
             case measure=>(simp[intOf];omega)
            | false=>
             go_wp2_with (go_at_call 199;refine HIK.out.mono ?_;rintro e w6 ⟨rfl,rfl⟩);go_ret;exact⟨ret_bool (by rw[HZ.out k hlt h0 (by rw[←HXK.out];exact HX0.out) HCT.out.symm];simp),B5⟩
      · obtain rfl:k=13:=by omega
        have hZ:=HY.out (fun j h=>HJ.out j h);have HZT:=qq hZ;clear hZ;go_wp2_with (go_at_call 200;refine(HA.out _).mono ?_;rintro e w6 ⟨rfl,rfl⟩)
        all_goals go_ret
        all_goals (refine⟨ret_bool ?_,B5⟩;rw[HZT.out,HE.out];have h4:=H4.out;have h5:=H5.out;have hn:=HN.out;have hd:=HD.out;have h6:=H6.out;(try simp[*]);(try omega))
end Go.Proofs.YtlkajejbfojkeaaGreatDoor
