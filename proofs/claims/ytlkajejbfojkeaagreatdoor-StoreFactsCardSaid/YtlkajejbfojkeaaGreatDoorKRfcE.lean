/- RfcE -/
import Derived.Test.YtlkajejbfojkeaaGreatDoorKTabNToRfcD
set_option linter.unusedSimpArgs false
set_option linter.unusedVariables false
set_option maxRecDepth 100000
set_option maxHeartbeats 16000000
namespace Go.Proofs.YtlkajejbfojkeaaGreatDoor
open Go.RowKit
theorem rr14_1 (an aq rg nd pt pr oc dp pa st hw de : Int) (ex : Nat) (hx : F64 ex) (bi b4 b5 b6 bn bs bd t1 t2 u1 u2 : Bool) (h4 : b4 = decide (0 ≤ rg ∧ rg ≤ 5)) (h5 : b5 = decide (0 ≤ pt ∧ pt ≤ 7)) (p1 : (pr == 1) = t1) (p2 : (pr == 2) = t2) (h6 : b6 = (t1 || t2)) (hn : bn = decide (0 ≤ nd ∧ nd ≤ 3)) (e1 : (de == 1) = u1) (e2 : (de == 2) = u2) (hd : bd = (u1 || u2)) (w : World) (hI : ∀ W, Calls Tryz.prog 197 #[.agg #[an, aq]] W (Makes (.bool bi) W)) (hS : ∀ W, Calls Tryz.prog 198 #[.int .i64 st, .int .i64 hw] W (Gives (.bool bs) W)) :
    Calls Tryz.prog 90 #[.agg #[.int .i64 1,an,aq,rg,nd,pt,pr,oc,dp,pa,st,hw,de,.float .f64 ex]] w (Makes (.bool (fzero ⟨1,an,aq,rg,nd,pt,pr,oc,dp,pa,st,hw,de,ex⟩ [1,2,7,8,9] && ((ctxOk an aq oc dp ex && decide (0≤pa∧pa≤8)) && true))) w):=by
 have HI:=qq hI;have HS:=qq hS;have H4:=qq h4;have H5:=qq h5;have H6:=qq h6;have HN:=qq hn;have HD:=qq hd;have HM:=qq (fun W=>numbers_of ⟨1,an,aq,rg,nd,pt,pr,oc,dp,pa,st,hw,de,ex⟩ W)
 have HZ:=qq (fun(k:Nat) (h1:k<13) (h2:k≠0) (h3:(fnums ⟨1,an,aq,rg,nd,pt,pr,oc,dp,pa,st,hw,de,ex⟩).getD k 0≠0) (h4:([1,2,7,8,9]:List Int).contains (k:Int)=false)=>fz_no (f:=⟨1,an,aq,rg,nd,pt,pr,oc,dp,pa,st,hw,de,ex⟩) h1 h2 h3 h4)
 have HY:=qq (fun(h:∀k:Nat,k<13→k=0∨(fnums ⟨1,an,aq,rg,nd,pt,pr,oc,dp,pa,st,hw,de,ex⟩).getD k 0=0∨([1,2,7,8,9]:List Int).contains (k:Int)=true)=>fz_yes (f:=⟨1,an,aq,rg,nd,pt,pr,oc,dp,pa,st,hw,de,ex⟩) (ns:=[1,2,7,8,9]) h);have HA:=qq (fun W=>raw_of ex W);have HX:=qq (fun W=>rright09_of an aq oc dp ex hx W);have hex:((ex:Int)==0)=decide (ex=0):=by rw[Bool.eq_iff_iff];simp
 clear hI hS h4 h5 h6 hn hd hx;dsimp only[factV,factC] at HM;obtain⟨bx,hbx⟩:∃bx,bx=decide (ex=0):=⟨_,rfl⟩
 rw[←hbx] at hex;have HBX:=qq hbx;clear hbx;obtain⟨E,hE⟩:∃E,E=(ctxOk an aq oc dp ex && decide (0≤pa∧pa≤8)):=⟨_,rfl⟩
 rw[←hE];have HE:=qq hE;clear hE;obtain⟨Z,hZ⟩:∃Z,Z=fzero ⟨1,an,aq,rg,nd,pt,pr,oc,dp,pa,st,hw,de,ex⟩ [1,2,7,8,9]:=⟨_,rfl⟩
 rw[←hZ] at HZ HY⊢;clear hZ;obtain⟨N,hN⟩:∃N,N=fnums ⟨1,an,aq,rg,nd,pt,pr,oc,dp,pa,st,hw,de,ex⟩:=⟨_,rfl⟩
 rw[←hN] at HZ HY;have HNN:=qq hN;clear hN;go_enter Tryz.func90,Tryz.ntmps90;go_upto_region 2 with(go_at_call 197;refine(HI.out _).mono ?_;rintro e w1 ⟨rfl,hb1⟩)
 have HK1:=qq ((Blk.fresh w #[.int .i64 1,an,aq,rg,nd,pt,pr,oc,dp,pa,st,hw,de,.float .f64 ex] 42 _ rfl).below hb1);have B1:Below w.heap.size w w1:=below_then (by go_grown) hb1;have hz1:=hb1.size;simp only[World.size_alloc] at hz1;have hs1:w.heap.size<w1.heap.size:=by omega
 have hs3:w.heap.size<w1.heap.size+1:=by omega
 obtain⟨q,qf⟩:=HK1.out.out;clear hb1;go_cut [4] from 14 to 21 (fun s4 wx=>s4=.bool b4∧w1=wx)
 case first=>
  go_wp2_with fail
  all_goals go_meet
  all_goals (refine⟨?_,rfl⟩;rw[H4.out];congr 1;(try simp only[*]);(try rw[Bool.eq_iff_iff]);(try simp);(try omega))
 case rest=>
  obtain⟨rfl,rfl⟩:=hcut;go_upto_region 3 with fail
  go_cut [5] from 22 to 29 (fun s5 wx=>s5=.bool b5∧w1=wx)
  case first=>
   go_wp2_with fail
   all_goals go_meet
   all_goals (refine⟨?_,rfl⟩;rw[H5.out];congr 1;(try simp only[*]);(try rw[Bool.eq_iff_iff]);(try simp);(try omega))
  case rest=>
   obtain⟨rfl,rfl⟩:=hcut;go_upto_region 4 with fail
   go_cut [6] from 30 to 37 (fun s6 wx=>s6=.bool b6∧w1=wx)
   case first=>
    go_wp2_with fail
    all_goals go_meet
    all_goals (refine⟨?_,rfl⟩;rw[H6.out];congr 1;(try simp only[*]);(try rw[Bool.eq_iff_iff]);(try simp);(try omega))
   case rest=>
    obtain⟨rfl,rfl⟩:=hcut;have HK2:=qq ((HK1.out.alloc (.cells #[] 3)).alloc (.cells #[.int .i64 1,.int .i64 2,.int .i64 7,.int .i64 8,.int .i64 9] 3));have HL2:=qq (read_lit (xs:=[1,2,7,8,9]) (Blk.fresh (w1.alloc (.cells #[] 3)) #[.int .i64 1,.int .i64 2,.int .i64 7,.int .i64 8,.int .i64 9] 3 (w1.heap.size+1) (by simp)))
    have B2:Below w.heap.size w ((w1.alloc (.cells #[] 3)).alloc (.cells #[.int .i64 1,.int .i64 2,.int .i64 7,.int .i64 8,.int .i64 9] 3)):=by go_grown
    go_wp2_with (first | (go_at_call 136;refine(HX.out _).mono ?_;rintro e w3 ⟨rfl,hb3⟩;have HK3:=qq (HK2.out.below hb3);have HL3:=qq (HL2.out.below hb3);have B3:Below w.heap.size w w3:=below_then B2 hb3;clear q qf hb3;obtain⟨q,qf⟩:=HK3.out.out) | (go_at_call 119;refine(HM.out _).mono ?_;rintro e w5 ⟨g,rfl,hb5,hbe⟩;have HK5:=qq (HK3.out.below hbe);have HL5:=qq (HL3.out.below hbe);have B5:Below w.heap.size w w5:=below_then B3 hbe;have HM5:=qq hb5;clear hb5 hbe q qf;obtain⟨q,qf⟩:=HK5.out.out))
    all_goals
     have HC:=qq (num_cells (f:=⟨1,an,aq,rg,nd,pt,pr,oc,dp,pa,st,hw,de,ex⟩) HM5.out);rw[←HNN.out] at HC;clear HM5;go_loop [150] (fun i=>∃k:Nat,k≤13∧i=.int .i64 (k:Nat)∧Hid (∀j:Nat,j<k→j=0∨N.getD j 0=0∨([1,2,7,8,9]:List Int).contains (j:Int)=true)) (fun i=>13 - (intOf i).toNat)
     case atStart=>exact⟨0,by omega,by first | rfl | go_num,qq (fun j h=>absurd h (by omega))⟩
     case round=>
      obtain⟨k,hk,rfl,HJ⟩:=hrel;by_cases hlt:k<13
      · have c0:=HC.out k hlt;obtain⟨x,hxk⟩:∃x,x=N.getD k 0:=⟨_,rfl⟩
        rw[←hxk] at c0;have HXK:=qq hxk;have hi0:(0:Int)≤(k:Int):=by omega
        have hi1:(k:Int)<13:=by omega
        have hik:=in_any [1,2,7,8,9] (k:Int) _ w5 HL5.out (by decide);clear hxk;by_cases h0:k=0
        · subst h0;clear hik;go_wp2_with fail;go_round
          case rel=>exact⟨1,by omega,by first | rfl | go_num,qq (fun j h=> .inl (by omega))⟩
          case measure=>simp[intOf]
        · have hkp:(0:Int)<(k:Int):=by omega
          by_cases hx0:x=0
          · have t0:(x !=0)=false:=by simpa using hx0
            have HX0:=qq hx0;clear hx0 hik;go_wp2_with fail;go_round
            case rel=>exact⟨k+1,by omega,by go_num,qq (fun j h=>by rcases Nat.lt_succ_iff_lt_or_eq.1 h with h1 | rfl;exact HJ.out j h1;exact .inr (.inl (by rw[←HXK.out];exact HX0.out)))⟩
            case measure=>(simp[intOf];omega)
          · have t0:(x !=0)=true:=by simpa using hx0
            have HX0:=qq hx0;clear hx0;obtain⟨ct,hct⟩:∃ct,ct=([1,2,7,8,9]:List Int).contains (k:Int):=⟨_,rfl⟩
            rw[←hct] at hik;have HCT:=qq hct;have HIK:=qq hik;clear hct hik
            cases ct with
            | true=>
             go_wp2_with (go_at_call 199;refine HIK.out.mono ?_;rintro e w6 ⟨rfl,rfl⟩);go_round
             case rel=>exact⟨k+1,by omega,by go_num,qq (fun j h=>by rcases Nat.lt_succ_iff_lt_or_eq.1 h with h1 | rfl;exact HJ.out j h1;exact .inr (.inr HCT.out.symm))⟩
             case measure=>(simp[intOf];omega)
            | false=>
             go_wp2_with (go_at_call 199;refine HIK.out.mono ?_;rintro e w6 ⟨rfl,rfl⟩);go_ret;exact⟨ret_bool (by rw[HZ.out k hlt h0 (by rw[←HXK.out];exact HX0.out) HCT.out.symm];simp),B5⟩
      · obtain rfl:k=13:=by omega
        have hZ:=HY.out (fun j h=>HJ.out j h);have HZT:=qq hZ;clear hZ;go_wp2_with (go_at_call 200;refine(HA.out _).mono ?_;rintro e w6 ⟨rfl,rfl⟩)
        all_goals go_ret
        all_goals (refine⟨ret_bool ?_,B5⟩;rw[HZT.out,HE.out];have h4:=H4.out;have h5:=H5.out;have hn:=HN.out;have hd:=HD.out;have h6:=H6.out;(try simp[*]);(try omega))
theorem rr14_0 (kd : Int) (hk : ¬ (1 ≤ kd ∧ kd ≤ 8)) (an aq rg nd pt pr oc dp pa st hw de : Int) (ex : Nat) (hx : F64 ex) (bi b4 b5 b6 bn bs bd t1 t2 u1 u2 : Bool) (h4 : b4 = decide (0 ≤ rg ∧ rg ≤ 5)) (h5 : b5 = decide (0 ≤ pt ∧ pt ≤ 7)) (p1 : (pr == 1) = t1) (p2 : (pr == 2) = t2) (h6 : b6 = (t1 || t2)) (hn : bn = decide (0 ≤ nd ∧ nd ≤ 3)) (e1 : (de == 1) = u1) (e2 : (de == 2) = u2) (hd : bd = (u1 || u2)) (w : World) (hI : ∀ W, Calls Tryz.prog 197 #[.agg #[an, aq]] W (Makes (.bool bi) W)) (hS : ∀ W, Calls Tryz.prog 198 #[.int .i64 st, .int .i64 hw] W (Gives (.bool bs) W)) :
    Calls Tryz.prog 90 #[.agg #[kd,an,aq,rg,nd,pt,pr,oc,dp,pa,st,hw,de,.float .f64 ex]] w (Makes (.bool (fzero ⟨kd,an,aq,rg,nd,pt,pr,oc,dp,pa,st,hw,de,ex⟩ [] && ((false) && decide (ex=0)))) w):=by
 have HI:=qq hI;have HS:=qq hS;have H4:=qq h4;have H5:=qq h5;have H6:=qq h6;have HN:=qq hn;have HD:=qq hd;have HM:=qq (fun W=>numbers_of ⟨kd,an,aq,rg,nd,pt,pr,oc,dp,pa,st,hw,de,ex⟩ W)
 have HZ:=qq (fun(k:Nat) (h1:k<13) (h2:k≠0) (h3:(fnums ⟨kd,an,aq,rg,nd,pt,pr,oc,dp,pa,st,hw,de,ex⟩).getD k 0≠0) (h4:([]:List Int).contains (k:Int)=false)=>fz_no (f:=⟨kd,an,aq,rg,nd,pt,pr,oc,dp,pa,st,hw,de,ex⟩) h1 h2 h3 h4)
 have HY:=qq (fun(h:∀k:Nat,k<13→k=0∨(fnums ⟨kd,an,aq,rg,nd,pt,pr,oc,dp,pa,st,hw,de,ex⟩).getD k 0=0∨([]:List Int).contains (k:Int)=true)=>fz_yes (f:=⟨kd,an,aq,rg,nd,pt,pr,oc,dp,pa,st,hw,de,ex⟩) (ns:=[]) h);have HA:=qq (fun W=>raw_of ex W);have HX:=qq (fun W=>rright09_of an aq oc dp ex hx W);have hex:((ex:Int)==0)=decide (ex=0):=by rw[Bool.eq_iff_iff];simp
 have d1:(kd==1)=false:=by rw[beq_eq_false_iff_ne];omega
 have d2:(kd==2)=false:=by rw[beq_eq_false_iff_ne];omega
 have d3:(kd==3)=false:=by rw[beq_eq_false_iff_ne];omega
 have d4:(kd==4)=false:=by rw[beq_eq_false_iff_ne];omega
 have d5:(kd==5)=false:=by rw[beq_eq_false_iff_ne];omega
 have d6:(kd==6)=false:=by rw[beq_eq_false_iff_ne];omega
 have d7:(kd==7)=false:=by rw[beq_eq_false_iff_ne];omega
 have d8:(kd==8)=false:=by rw[beq_eq_false_iff_ne];omega
 clear hI hS h4 h5 h6 hn hd hx hk;dsimp only[factV,factC] at HM;obtain⟨bx,hbx⟩:∃bx,bx=decide (ex=0):=⟨_,rfl⟩
 rw[←hbx] at hex⊢;have HBX:=qq hbx;clear hbx;obtain⟨E,hE⟩:∃E,E=(false):=⟨_,rfl⟩
 rw[←hE];have HE:=qq hE;clear hE;obtain⟨Z,hZ⟩:∃Z,Z=fzero ⟨kd,an,aq,rg,nd,pt,pr,oc,dp,pa,st,hw,de,ex⟩ []:=⟨_,rfl⟩
 rw[←hZ] at HZ HY⊢;clear hZ;obtain⟨N,hN⟩:∃N,N=fnums ⟨kd,an,aq,rg,nd,pt,pr,oc,dp,pa,st,hw,de,ex⟩:=⟨_,rfl⟩
 rw[←hN] at HZ HY;have HNN:=qq hN;clear hN;go_enter Tryz.func90,Tryz.ntmps90;go_upto_region 2 with(go_at_call 197;refine(HI.out _).mono ?_;rintro e w1 ⟨rfl,hb1⟩)
 have HK1:=qq ((Blk.fresh w #[kd,an,aq,rg,nd,pt,pr,oc,dp,pa,st,hw,de,.float .f64 ex] 42 _ rfl).below hb1);have B1:Below w.heap.size w w1:=below_then (by go_grown) hb1;have hz1:=hb1.size;simp only[World.size_alloc] at hz1;have hs1:w.heap.size<w1.heap.size:=by omega
 have hs3:w.heap.size<w1.heap.size+1:=by omega
 obtain⟨q,qf⟩:=HK1.out.out;clear hb1;go_cut [4] from 14 to 21 (fun s4 wx=>s4=.bool b4∧w1=wx)
 case first=>
  go_wp2_with fail
  all_goals go_meet
  all_goals (refine⟨?_,rfl⟩;rw[H4.out];congr 1;(try simp only[*]);(try rw[Bool.eq_iff_iff]);(try simp);(try omega))
 case rest=>
  obtain⟨rfl,rfl⟩:=hcut;go_upto_region 3 with fail
  go_cut [5] from 22 to 29 (fun s5 wx=>s5=.bool b5∧w1=wx)
  case first=>
   go_wp2_with fail
   all_goals go_meet
   all_goals (refine⟨?_,rfl⟩;rw[H5.out];congr 1;(try simp only[*]);(try rw[Bool.eq_iff_iff]);(try simp);(try omega))
  case rest=>
   obtain⟨rfl,rfl⟩:=hcut;go_upto_region 4 with fail
   go_cut [6] from 30 to 37 (fun s6 wx=>s6=.bool b6∧w1=wx)
   case first=>
    go_wp2_with fail
    all_goals go_meet
    all_goals (refine⟨?_,rfl⟩;rw[H6.out];congr 1;(try simp only[*]);(try rw[Bool.eq_iff_iff]);(try simp);(try omega))
   case rest=>
    obtain⟨rfl,rfl⟩:=hcut;have HK2:=qq (HK1.out.alloc (.cells #[] 3));have HL2:=qq (read_lit (xs:=[]) (Blk.fresh w1 #[] 3 (w1.heap.size) rfl));have B2:Below w.heap.size w (w1.alloc (.cells #[] 3)):=by go_grown
    go_wp2_with (first | (go_at_call 119;refine(HM.out _).mono ?_;rintro e w5 ⟨g,rfl,hb5,hbe⟩;have HK5:=qq (HK2.out.below hbe);have HL5:=qq (HL2.out.below hbe);have B5:Below w.heap.size w w5:=below_then B2 hbe;have HM5:=qq hb5;clear hb5 hbe q qf;obtain⟨q,qf⟩:=HK5.out.out))
    all_goals
     have HC:=qq (num_cells (f:=⟨kd,an,aq,rg,nd,pt,pr,oc,dp,pa,st,hw,de,ex⟩) HM5.out);rw[←HNN.out] at HC;clear HM5;go_loop [150] (fun i=>∃k:Nat,k≤13∧i=.int .i64 (k:Nat)∧Hid (∀j:Nat,j<k→j=0∨N.getD j 0=0∨([]:List Int).contains (j:Int)=true)) (fun i=>13 - (intOf i).toNat)
     case atStart=>exact⟨0,by omega,by first | rfl | go_num,qq (fun j h=>absurd h (by omega))⟩
     case round=>
      obtain⟨k,hk,rfl,HJ⟩:=hrel;by_cases hlt:k<13
      · have c0:=HC.out k hlt;obtain⟨x,hxk⟩:∃x,x=N.getD k 0:=⟨_,rfl⟩
        rw[←hxk] at c0;have HXK:=qq hxk;have hi0:(0:Int)≤(k:Int):=by omega
        have hi1:(k:Int)<13:=by omega
        have hik:=in_any [] (k:Int) _ w5 HL5.out (by decide);clear hxk;by_cases h0:k=0
        · subst h0;clear hik;go_wp2_with fail;go_round
          case rel=>exact⟨1,by omega,by first | rfl | go_num,qq (fun j h=> .inl (by omega))⟩
          case measure=>simp[intOf]
        · have hkp:(0:Int)<(k:Int):=by omega
          by_cases hx0:x=0
          · have t0:(x !=0)=false:=by simpa using hx0
            have HX0:=qq hx0;clear hx0 hik;go_wp2_with fail;go_round
            case rel=>exact⟨k+1,by omega,by go_num,qq (fun j h=>by rcases Nat.lt_succ_iff_lt_or_eq.1 h with h1 | rfl;exact HJ.out j h1;exact .inr (.inl (by rw[←HXK.out];exact HX0.out)))⟩
            case measure=>(simp[intOf];omega)
          · have t0:(x !=0)=true:=by simpa using hx0
            have HX0:=qq hx0;clear hx0;obtain⟨ct,hct⟩:∃ct,ct=([]:List Int).contains (k:Int):=⟨_,rfl⟩
            rw[←hct] at hik;have HCT:=qq hct;have HIK:=qq hik;clear hct hik
            cases ct with
            | true=>exact absurd HCT.out (by simp)
            | false=>
             go_wp2_with (go_at_call 199;refine HIK.out.mono ?_;rintro e w6 ⟨rfl,rfl⟩);go_ret;exact⟨ret_bool (by rw[HZ.out k hlt h0 (by rw[←HXK.out];exact HX0.out) HCT.out.symm];simp),B5⟩
      · obtain rfl:k=13:=by omega
        have hZ:=HY.out (fun j h=>HJ.out j h);have HZT:=qq hZ;clear hZ;go_wp2_with (go_at_call 200;refine(HA.out _).mono ?_;rintro e w6 ⟨rfl,rfl⟩)
        all_goals go_ret
        all_goals (refine⟨ret_bool ?_,B5⟩;rw[HZT.out,HE.out];have h4:=H4.out;have h5:=H5.out;have hn:=HN.out;have hd:=HD.out;have h6:=H6.out;(try simp[*]);(try omega))
end Go.Proofs.YtlkajejbfojkeaaGreatDoor
