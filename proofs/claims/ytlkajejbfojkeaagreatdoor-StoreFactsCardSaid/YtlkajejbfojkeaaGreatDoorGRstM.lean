/- RstM -/
import Derived.Test.YtlkajejbfojkeaaGreatDoorGRstL
import Derived.Laws.OwnMore
set_option linter.unusedSimpArgs false
set_option linter.unusedVariables false
set_option maxRecDepth 100000
set_option maxHeartbeats 16000000
namespace Go.Proofs.YtlkajejbfojkeaaGreatDoor
open Go.RowKit
attribute [local go_sem] store_float
theorem step_nil {w : World} {ops : Array Oper} {o : Oper} {a : Act} {K : Act → World → Prop} {Q : Exit → Act → World → Prop} {E : Prop} (hgd : o.guard = none) (s x : Operand) (t : TypeId)
    (ho:o.op=.call {callee:=.builtin .append,args:= #[s,x],argTypes:= #[t,t]})
    (base:Nat) (e:TypeId) (i:TypeInfo) (size:Nat) (ht:Tryz.prog.underlying t=some (.slice e)) (hi:Tryz.prog.info? e=some i)
    (v:Value) (n:Nat) (xs:List Value) (hs:a.eval s=v) (hown:w.ownsRow base e size v n xs) (hx:a.eval x=.slice none 0 0)
    (h:K (a.put o.dst v) w):if Region.wanted o (yielded ops a.tmps)=true then Oper.wp Tryz.prog o a w K Q else E:=by
 have hw:Region.wanted o (yielded ops a.tmps)=true:=by simp[Region.wanted,hgd]
 rw[if_pos hw];have hr:=run_append_owned_none (P:=Tryz.prog) (w:=w) base t o.type e i size ht hi v n xs hown;unfold Oper.wp;simp only[execOp,ho,resolve,invoke,builtin,Sem.run_bind,Sem.run_pure,Result.andThen_ok,List.map_toArray,List.map_cons,List.map_nil,hs,hx,hr];exact h
theorem step_reg {w : World} {ops : Array Oper} {o : Oper} {a : Act} {K : Act → World → Prop} {Q : Exit → Act → World → Prop} {E : Prop} (hgd : o.guard = none) (s x : Operand)
    (ho:o.op=.call {callee:=.builtin .append,args:= #[s,x],argTypes:= #[114,114]}) (v:Value) (n:Nat) (xs:List Value) (hs:a.eval s=v) (hown:w.ownsRow 0 199 6 v n xs)
    (ad:Addr) (m c:Nat) (news:List Value) (hx:a.eval x=.slice (some ad) m c) (hl:news.length=m*6) (hnews:∀j u,news[j]? =some u→w.cell? (ad.add j)=some u) (h1:∀u∈news,u.oneCell'=true)
    (h63:n+m≤maxLen) (hbytes:(n+m)*48≤140737488355328)
    (h:∀v' w',w'.ownsRow 0 199 6 v' (n+m) (xs ++news)→w.grownBy w' v.ownBlock→(v'.ownBlock=v.ownBlock∨v'.ownBlock=some w.heap.size)→K (a.put o.dst v') w'):
    if Region.wanted o (yielded ops a.tmps)=true then Oper.wp Tryz.prog o a w K Q else E:=by
 obtain⟨i0,ei,ez,es,eb⟩:=info_parts infoRReg;exact step_app hgd s x 114 ho 0 199 i0 (.agg #[.int .i64 0,.int .i64 0,.int .i64 0,.int .i64 0,.int .i64 0,.int .i64 0]) 6 48 Tryz.underlying114 ei ez es eb rfl (by decide) v n xs hs hown ad m c news hx hl hnews h1 h63 hbytes (Nat.zero_le _) h
theorem blk_grown {W w1:World} {b:Nat} {C:Array Value} {v0:Value} (h:Blk W b C) (hg:W.grownBy w1 v0.ownBlock) (hne:v0.ownBlock≠some b):Blk w1 b C:=
 Blk.same h hg.size (hg.block _ h.lt (fun e=>hne e.symm))
theorem reg_app {w wr W w2 : World} {C : Array Value} {v0 v2 : Value} {g o : Nat} {old : Value} {nd pt pr : Int} (hBr : Blk wr w.heap.size C) (h7 : w.cell? ⟨g, o, none⟩ = some old) (hf : ∀ i, w.frozen? ⟨g, i, none⟩ = false) (hg : g < w.heap.size)
    (hm:∃m,w.heap.size≤m∧v0.ownBlock=some m) (hmr:∃m,wr.heap.size≤m∧v0.ownBlock=some m) (hb:Below w.heap.size w W) (hbr:Below wr.heap.size wr W) (hgr:W.grownBy w2 v0.ownBlock) (hat:v2.ownBlock=v0.ownBlock∨v2.ownBlock=some W.heap.size)
    (e4:C[4]? =some (.int .i64 nd):=by rfl) (e5:C[5]? =some (.int .i64 pt):=by rfl) (e6:C[6]? =some (.int .i64 pr):=by rfl):
    Hid (Below w.heap.size w w2∧∃m,w.heap.size≤m∧v2.ownBlock=some m)∧Hid (Below wr.heap.size wr w2∧∃m,wr.heap.size≤m∧v2.ownBlock=some m)
     ∧w2.cell? ⟨w.heap.size,4,none⟩=some (.int .i64 nd)∧w2.cell? ⟨w.heap.size,5,none⟩=some (.int .i64 pt)∧w2.cell? ⟨w.heap.size,6,none⟩=some (.int .i64 pr)
     ∧w2.cell? ⟨g,o,none⟩=some old∧w2.frozen? ⟨g,o,none⟩=false∧wr.heap.size≤w2.heap.size∧w.heap.size<w2.heap.size∧g<w2.heap.size:=by
 have h1:=app_new hb hgr hat hm;have h2:=app_new hbr hgr hat hmr;have h3:=hBr.below h2.1;have h4:=h2.1.size;have h5:=hBr.lt;exact⟨qq h1,qq h2,(h3.cell 4).trans e4,(h3.cell 5).trans e5,(h3.cell 6).trans e6,(h1.1.cell (p:=⟨g,o,none⟩) hg).trans h7,(h1.1.frozen (p:=⟨g,o,none⟩) hg).trans (hf _),h4,by omega,by omega⟩
theorem gets:(∀(l:List Oper) (i:Nat),l.toArray[i]? =l[i]?)∧(∀(x:Oper) (l:List Oper),(x::l)[0]? =some x)∧(∀(x:Oper) (l:List Oper) (i:Nat),(x::l)[i+1]? =l[i]?):=by
 refine⟨fun _ _=> ?_,fun _ _=>rfl,fun _ _ _=>rfl⟩;simp
theorem ract2_yes (R : RLoc) (S : Sto) (f : SFact) (i : Nat) (a : SAct) (v : Value) (w : World) (h : RStoreAt R S w) (hl : S.acts.length ≤ 8) (hk : f.k = 2) (hv : R.rv[i]? = some v) (ha : S.acts[i]? = some a) (hrl : a.regs.length ≤ 6) (h1 : f.rg = (a.regs.length : Int)) (h2 : a.de = 0) (h3 : (a.regs.any fun r => decide (r.n = f.nd ∧ r.p = f.pt)) = false) :
    Calls Tryz.prog 93 #[.pointer (some ⟨R.sb,0,none⟩),.int .i64 (i:Int),factV f] w (fun e w'=>e=.returned (.bool true)∧RGoes R {S with acts:=S.acts.set i {a with regs:=a.regs ++ [⟨f.nd,f.pt,⟨f.pr,1,1,0⟩⟩]}} w w'):=by
 obtain⟨aa,acap,hav,han,har⟩:=act_row h.len h.acts;have hil:i<S.acts.length:=(List.getElem?_eq_some_iff.1 ha).1;obtain⟨g,rfl,hg,hgf,hcell⟩:=har (by omega);obtain⟨a0,a1,a2,a3,a4,a5,a6,a7⟩:=hcell i a v ha hv;have c2:w.cell? ⟨R.sb,2,none⟩=some (.slice (some ⟨g,0,none⟩) S.acts.length acap):=by rw[←hav];exact h.blk.cell 2
 have hsb:=h.blk.lt;have hrv:=h.regs i v a hv ha;obtain⟨ra,rcap,hrvs,hrn,hrr⟩:=reg_row hrv;have HG:=qq (fun w2 v' (rs:List SReg) m (hb:Below w.heap.size w w2) (ho:w2.ownsRow 0 199 6 v' rs.length (regsL rs)) (hm:v'.ownBlock=some m) (hml:w.heap.size≤m)=>renr_goes h hb hav ha ho hm hml);have HRV:=qq hrv;have HGF:=qq hgf;have HL1:=qq (flat_length _ 6 regL_len a.regs)
 have HO1':=qq (flat_one regL regL_one a.regs);obtain⟨i0,ei,ez,es,eb⟩:=info_parts infoRReg;subst hrvs;obtain⟨rs,hrs⟩:∃rs,rs=a.regs:=⟨_,rfl⟩
 rw[←hrs] at hrr a7 hrl h1 h3 HRV HL1 HO1';obtain⟨m,hm⟩:∃m,m=rs.length:=⟨_,rfl⟩
 rw[←hm] at hrr a7 hrl h1 HRV HL1;have HRR:=qq hrr;have HM:=qq hm;have H3:=qq h3;have HRS:=qq hrs;obtain⟨n,hn⟩:∃n,n=S.acts.length:=⟨_,rfl⟩
 rw[←hn] at c2 hil hl;have hi0:(0:Int)≤(i:Int):=by omega
 have hi1:(i:Int)<(n:Int):=by omega
 have Q7:=qq a7;obtain⟨xan,xaq,xoc,xdp,xex,xpa,xde,xrs⟩:=a;obtain⟨k,an,aq,rg,nd,pt,pr,oc,dp,pa,st,hw,de,ex⟩:=f;dsimp only at*;subst hk h1 h2;dsimp only[factV,factC] at*;have d1:((m:Int) !=(m:Int))=false:=by simp
 have HBX:=qq ((Blk.fresh w #[.int .i64 2,an,aq,(m:Int),nd,pt,pr,oc,dp,pa,st,hw,de,.float .f64 ex] 42 _ rfl).drew);clear h hv ha hav han har hcell hn a0 a1 a2 a3 a4 a5 hrv hrn hrr hm h3 hrs hgf;go_enter Tryz.func93,Tryz.ntmps93;go_wp2_with fail;go_region;go_wp2_with fail;clear d1
 go_loopw [44] (fun x wr=>∃k:Nat,k≤m∧x=.int .i64 (k:Nat)∧Hid (∀j:Nat,j<k→((rs[j]?).map fun r=>decide (r.n=nd∧r.p=pt))=some false)∧Hid (Blk wr w.heap.size #[.int .i64 2,an,aq,(m:Int),nd,pt,pr,oc,dp,pa,st,hw,de,.float .f64 ex])∧Below w.heap.size w wr) (fun x _=>m - (intOf x).toNat)
 case atStart=>exact⟨0,by omega,by first | rfl | go_num,qq (fun j h=>absurd h (by omega)),HBX,by go_grown⟩
 case round=>
  obtain⟨k,hkm,rfl,HBE,HBr,hB⟩:=hrel;by_cases hlt:k<m
  · have hks:k<rs.length:=by rw[←HM.out];exact hlt
    obtain⟨rb,rfl,hrb,hrf,hrc⟩:=HRR.out (by omega);obtain⟨x,hx⟩:∃x,rs[k]? =some x:=⟨_,List.getElem?_eq_getElem hks⟩
    obtain⟨p0,p1,p2,p3,p4,p5⟩:=(hrc k x hx).below hB hrb;have HX:=qq hx;have hki:(k:Int)<(m:Int):=by omega
    have hk0:(0:Int)≤(k:Int):=by omega
    have hzw:w.heap.size<wr.heap.size:=HBr.out.lt;have hrw:rb<wr.heap.size:=by have:=hB.size;omega
    have hBx:Below w.heap.size w (wr.alloc (.cells #[x.n,x.p,x.seat.p,x.seat.d,x.seat.s,x.seat.h] 199)):=hB.alloc hB.size _;have HB2:=qq (HBr.out.alloc (.cells #[x.n,x.p,x.seat.p,x.seat.d,x.seat.s,x.seat.h] 199));obtain⟨q,qf⟩:=HBr.out.out;obtain⟨t1,ht1⟩:∃t,t=(x.n==nd):=⟨_,rfl⟩
    obtain⟨t2,ht2⟩:∃t,t=(x.p==pt):=⟨_,rfl⟩
    have e1:(x.n==nd)=t1:=ht1.symm;have e2:(x.p==pt)=t2:=ht2.symm;have HT:=qq (show decide (x.n=nd∧x.p=pt)=(t1 && t2) by rw[ht1,ht2];rw[Bool.eq_iff_iff];simp);clear ht1 ht2 hrc hrf hx;obtain⟨xn,xp,⟨xsp,xsd,xss,xsh⟩⟩:=x;dsimp only at p0 p1 p2 p3 p4 p5 e1 e2 hBx HB2
    cases t1<;>cases t2
    case true.true=>
     go_wp2_with fail;exfalso;have h3:=List.any_eq_false.1 H3.out _ (List.mem_of_getElem? HX.out);exact h3 HT.out
    all_goals
     go_wp2_with fail;go_roundw
     case rel => exact ⟨k + 1, by omega, by go_num, qq (fun j hj => by
         rcases Nat.lt_or_eq_of_le (Nat.le_of_lt_succ hj) with h1 | h1
         · exact HBE.out j h1
         · subst h1;rw[HX.out];simp only[Option.map_some];rw[HT.out];rfl),HB2,hBx⟩
     case measure=>(simp[intOf];omega)
  · obtain rfl:k=m:=by omega
    clear HBE HRR H3;have hz0:w.heap.size<wr.heap.size:=HBr.out.lt;have hgr:g<wr.heap.size:=by omega
    have j4:wr.cell? ⟨w.heap.size,4,none⟩=some (.int .i64 nd):=HBr.out.cell 4;have j5:wr.cell? ⟨w.heap.size,5,none⟩=some (.int .i64 pt):=HBr.out.cell 5;have j6:wr.cell? ⟨w.heap.size,6,none⟩=some (.int .i64 pr):=HBr.out.cell 6
    have HOE:=qq (show(World.drew (wr.alloc (.cells #[] 199))).ownsRow 0 199 6 (.slice (some ⟨wr.heap.size,0,none⟩) 0 0) 0 [] from World.ownsRow_lit wr #[] 0 (Nat.zero_le _) (by decide) rfl)
    have HOEL:=qq (show(World.drew ((wr.alloc (.cells #[] 199)).alloc (.cells #[nd,pt,pr,.int .i64 1,.int .i64 1,.int .i64 0] 199))).ownsRow 0 199 6 (.slice (some ⟨wr.heap.size,0,none⟩) 0 0) 0 [] from(World.ownsRow_lit wr #[] 0 (Nat.zero_le _) (by decide) rfl).alloc _)
    have HOLE:=qq (show(World.drew ((wr.alloc (.cells #[nd,pt,pr,.int .i64 1,.int .i64 1,.int .i64 0] 199)).alloc (.cells #[] 199))).ownsRow 0 199 6 (.slice (some ⟨wr.heap.size+1,0,none⟩) 0 0) 0 [] by have:=World.ownsRow_lit (e:=199) (size:=6) (base:=0) (wr.alloc (.cells #[nd,pt,pr,.int .i64 1,.int .i64 1,.int .i64 0] 199)) #[] 0 (Nat.zero_le _) (by decide) rfl;rw[show(wr.alloc (.cells #[nd,pt,pr,.int .i64 1,.int .i64 1,.int .i64 0] 199)).heap.size=wr.heap.size+1 by simp] at this;exact this)
    rcases HRV.out.2 with⟨hnil,hm0⟩ | ⟨rb,rcap',cur,hrv2,hrb0,hrbh,hrest⟩
    · obtain⟨rfl,rfl⟩:ra=none∧rcap=0:=by simpa[hm0] using hnil
      subst hm0;have hrs0:rs=[]:=List.eq_nil_of_length_eq_zero HM.out.symm;subst hrs0;have HM0:=qq (show ∃m,w.heap.size≤m∧(Value.slice (some ⟨wr.heap.size,0,none⟩) 0 0).ownBlock=some m from⟨wr.heap.size,by omega,rfl⟩);have HM1:=qq (show ∃m,w.heap.size≤m∧(Value.slice (some ⟨wr.heap.size+1,0,none⟩) 0 0).ownBlock=some m from⟨wr.heap.size+1,by omega,rfl⟩)
      have j7:=(hB.cell (p:=⟨g,i*8+7,none⟩) hg).trans Q7.out;have p1:=qq (show 0+1≤maxLen∧(0+1)*48≤140737488355328 from⟨by decide,by decide⟩);have hgw1:g≠w.heap.size:=by omega
      have hgw2:w.heap.size≠g:=by omega
      clear hnil;go_wp2_with fail;refine wp_region_noPanic ?_;refine wp_region_held_drew (S:=(fun w'=>w'.cell? ⟨w.heap.size,4,none⟩=some (.int .i64 nd)∧w'.cell? ⟨w.heap.size,5,none⟩=some (.int .i64 pt)∧w'.cell? ⟨w.heap.size,6,none⟩=some (.int .i64 pr))) (by kernel_rfl) ?_ (fun hHeld=> ?_)
      · (try dsimp only);(first | exact⟨j4,j5,j6⟩ | exact⟨k4,k5,k6⟩ | exact⟨j8,j9,j10⟩ | go_keep | ((repeat' apply And.intro)<;>go_keep))
      refine takeU (d:=some 61) 0 rfl rfl hHeld (fun w' _=>by go_simp;(try rfl)) ?_;simp only[puts];refine takeU (d:=some 63) 2 rfl rfl hHeld (fun w' _=>by go_simp;(try rfl)) ?_;simp only[puts];refine takeU (d:=some 64) 3 rfl rfl hHeld (fun w' _=>by go_simp;(try rfl)) ?_;simp only[puts];refine takeU (d:=some 65) 4 rfl rfl hHeld (fun w' _=>by go_simp;(try rfl)) ?_;simp only[puts]
      refine takeU (d:=some 68) 7 rfl rfl hHeld (fun w' _=>by go_simp;(try rfl)) ?_;simp only[puts];refine takeU (d:=some 69) 8 rfl rfl hHeld (fun w' hS'=>by obtain⟨qA,qB,qC⟩:=hS';go_simp;(try rfl)) ?_;simp only[puts];refine takeU (d:=some 70) 9 rfl rfl hHeld (fun w' _=>by go_simp;(try rfl)) ?_;simp only[puts]
      refine takeU (d:=some 71) 10 rfl rfl hHeld (fun w' hS'=>by obtain⟨qA,qB,qC⟩:=hS';go_simp;(try rfl)) ?_;simp only[puts];refine takeU (d:=some 72) 11 rfl rfl hHeld (fun w' _=>by go_simp;(try rfl)) ?_;simp only[puts];refine takeU (d:=some 73) 12 rfl rfl hHeld (fun w' hS'=>by obtain⟨qA,qB,qC⟩:=hS';go_simp;(try rfl)) ?_;simp only[puts]
      refine takeU (d:=some 74) 13 rfl rfl hHeld (fun w' _=>by go_simp;(try rfl)) ?_;simp only[puts];refine takeU (d:=some 75) 14 rfl rfl hHeld (fun w' _=>by go_simp;(try rfl)) ?_;simp only[puts];refine wpAnyH_ready (rs:=[1,5,15]) (by kernel_rfl) (by simp) ?_;refine AllReadyH.cons (i:=1) (by simp only[gets];try rfl) (fun K hK=> ?_) ?_
      · go_simp;refine hK.out _ _ ?_ (fun hHeld=> ?_)
        · (try dsimp only);(first | exact⟨j4,j5,j6⟩ | go_keep | ((repeat' apply And.intro)<;>go_keep))
        clear hK K
        (try simp only[Act.put,puts])
        refine wpAnyH_ready (rs:=[5,15]) (by kernel_rfl) (by simp) ?_;refine AllReadyH.cons (i:=5) (by simp only[gets];try rfl) (fun K hK=> ?_) ?_
        · go_simp;refine hK.out _ _ ?_ (fun hHeld=> ?_)
          · (try dsimp only);(first | exact⟨j4,j5,j6⟩ | go_keep | ((repeat' apply And.intro)<;>go_keep))
          clear hK K
          (try simp only[Act.put,puts])
          refine wpAnyH_ready (rs:=[6,15]) (by kernel_rfl) (by simp) ?_;refine AllReadyH.cons (i:=6) (by simp only[gets];try rfl) (fun K hK=> ?_) ?_
          · refine step_nil rfl (.tmp 62) (.tmp 66) 114 rfl 0 199 i0 6 Tryz.underlying114 ei (.slice (some ⟨wr.heap.size,0,none⟩) 0 0) 0 [] (by rfl) HOE.out (by rfl) ?_;refine hK.out _ _ ?_ (fun hHeld=> ?_)
            · (try dsimp only);(first | exact⟨k4,k5,k6⟩ | exact⟨j4,j5,j6⟩ | go_keep | ((repeat' apply And.intro)<;>go_keep))
            clear hK K
            (try simp only[Act.put,puts])
            refine wpAnyH_ready (rs:=[15]) (by kernel_rfl) (by simp) ?_;refine AllReadyH.cons (i:=15) (by simp only[gets];try rfl) (fun K hK=> ?_) AllReadyH.nil;go_simp;refine hK.out _ _ ?_ (fun hHeld=> ?_)
            · (try dsimp only);(first | exact⟨k4,k5,k6⟩ | exact⟨j4,j5,j6⟩ | go_keep | ((repeat' apply And.intro)<;>go_keep))
            clear hK K
            (try simp only[Act.put,puts])
            refine wpAnyH_ready (rs:=[16]) (by kernel_rfl) (by simp) ?_;refine AllReadyH.cons (i:=16) (by simp only[gets];try rfl) (fun K hK=> ?_) AllReadyH.nil
            (refine step_reg rfl (.tmp 67) (.tmp 76) rfl (.slice (some ⟨wr.heap.size,0,none⟩) 0 0) 0 [] (by rfl) HOEL.out ⟨wr.heap.size+1,0,none⟩ 1 1 (regL ⟨nd,pt,⟨pr,1,1,0⟩⟩) (by rfl) rfl (lit_cells ((Blk.fresh (wr.alloc (.cells #[] 199)) #[nd,pt,pr,.int .i64 1,.int .i64 1,.int .i64 0] 199 (wr.heap.size+1) (by simp)).drew)) (regL_one _) p1.out.1 p1.out.2 ?_;intro v2 w2 hown2 hgrow2 hat2;obtain⟨HB3,HBr2,j8,j9,j10,k8,k9,-,-,-⟩:=reg_app (nd:=nd) (pt:=pt) (pr:=pr) HBr.out Q7.out HGF.out hg HM0.out ⟨_,Nat.le_refl _,rfl⟩ (by go_grown) (by go_grown) hgrow2 hat2;have HO2:=qq hown2;obtain⟨a2,cc2,rfl⟩:=row_slice hown2;clear hown2 hgrow2 hat2)
            refine hK.out _ _ ?_ (fun hHeld=> ?_)
            · (try dsimp only);(first | exact⟨j8,j9,j10⟩ | go_keep | ((repeat' apply And.intro)<;>go_keep))
            clear hK K
            (try simp only[Act.put,puts])
            refine takeU (d:=some 78) 17 rfl rfl hHeld (fun w' _=>by go_simp;(try rfl)) ?_;simp only[puts];refine takeU (d:=some 79) 18 rfl rfl hHeld (fun w' _=>by go_simp;(try rfl)) ?_;simp only[puts];refine wpAnyH_ready (rs:=[19]) (by kernel_rfl) (by simp) ?_;refine AllReadyH.cons (i:=19) (by simp only[gets];try rfl) (fun K hK=> ?_) AllReadyH.nil;go_simp;refine hK.out _ _ ?_ (fun hHeld=> ?_)
            · (try dsimp only);(first | exact⟨j8,j9,j10⟩ | go_keep | ((repeat' apply And.intro)<;>go_keep))
            clear hK K
            (try simp only[Act.put,puts])
            refine wpAnyH_done (by kernel_rfl) ?_ _;refine NoPanic.normal ?_;go_wp2_with fail;go_ret;have ho:=HO2.out;obtain⟨hbf,mm,hmm,hov⟩:=HB3.out;exact⟨rfl,by have hr:=HG.out _ _ ([] ++ [⟨nd,pt,⟨pr,1,1,0⟩⟩]) mm hbf (by simpa[regsL] using ho) hov hmm;have hrs:=HRS.out;(try dsimp only at hrs);rw[←hrs];simpa using hr⟩
          refine AllReadyH.cons (i:=15) (by simp only[gets];try rfl) (fun K hK=> ?_) ?_
          · go_simp;refine hK.out _ _ ?_ (fun hHeld=> ?_)
            · (try dsimp only);(first | exact⟨j4,j5,j6⟩ | go_keep | ((repeat' apply And.intro)<;>go_keep))
            clear hK K
            (try simp only[Act.put,puts])
            refine wpAnyH_ready (rs:=[6]) (by kernel_rfl) (by simp) ?_;refine AllReadyH.cons (i:=6) (by simp only[gets];try rfl) (fun K hK=> ?_) AllReadyH.nil;refine step_nil rfl (.tmp 62) (.tmp 66) 114 rfl 0 199 i0 6 Tryz.underlying114 ei (.slice (some ⟨wr.heap.size,0,none⟩) 0 0) 0 [] (by rfl) HOEL.out (by rfl) ?_;refine hK.out _ _ ?_ (fun hHeld=> ?_)
            · (try dsimp only);(first | exact⟨k4,k5,k6⟩ | exact⟨j4,j5,j6⟩ | go_keep | ((repeat' apply And.intro)<;>go_keep))
            clear hK K
            (try simp only[Act.put,puts])
            refine wpAnyH_ready (rs:=[16]) (by kernel_rfl) (by simp) ?_;refine AllReadyH.cons (i:=16) (by simp only[gets];try rfl) (fun K hK=> ?_) AllReadyH.nil
            (refine step_reg rfl (.tmp 67) (.tmp 76) rfl (.slice (some ⟨wr.heap.size,0,none⟩) 0 0) 0 [] (by rfl) HOEL.out ⟨wr.heap.size+1,0,none⟩ 1 1 (regL ⟨nd,pt,⟨pr,1,1,0⟩⟩) (by rfl) rfl (lit_cells ((Blk.fresh (wr.alloc (.cells #[] 199)) #[nd,pt,pr,.int .i64 1,.int .i64 1,.int .i64 0] 199 (wr.heap.size+1) (by simp)).drew)) (regL_one _) p1.out.1 p1.out.2 ?_;intro v2 w2 hown2 hgrow2 hat2;obtain⟨HB3,HBr2,j8,j9,j10,k8,k9,-,-,-⟩:=reg_app (nd:=nd) (pt:=pt) (pr:=pr) HBr.out Q7.out HGF.out hg HM0.out ⟨_,Nat.le_refl _,rfl⟩ (by go_grown) (by go_grown) hgrow2 hat2;have HO2:=qq hown2;obtain⟨a2,cc2,rfl⟩:=row_slice hown2;clear hown2 hgrow2 hat2)
            refine hK.out _ _ ?_ (fun hHeld=> ?_)
            · (try dsimp only);(first | exact⟨j8,j9,j10⟩ | go_keep | ((repeat' apply And.intro)<;>go_keep))
            clear hK K
            (try simp only[Act.put,puts])
            refine takeU (d:=some 78) 17 rfl rfl hHeld (fun w' _=>by go_simp;(try rfl)) ?_;simp only[puts];refine takeU (d:=some 79) 18 rfl rfl hHeld (fun w' _=>by go_simp;(try rfl)) ?_;simp only[puts];refine wpAnyH_ready (rs:=[19]) (by kernel_rfl) (by simp) ?_;refine AllReadyH.cons (i:=19) (by simp only[gets];try rfl) (fun K hK=> ?_) AllReadyH.nil;go_simp;refine hK.out _ _ ?_ (fun hHeld=> ?_)
            · (try dsimp only);(first | exact⟨j8,j9,j10⟩ | go_keep | ((repeat' apply And.intro)<;>go_keep))
            clear hK K
            (try simp only[Act.put,puts])
            refine wpAnyH_done (by kernel_rfl) ?_ _;refine NoPanic.normal ?_;go_wp2_with fail;go_ret;have ho:=HO2.out;obtain⟨hbf,mm,hmm,hov⟩:=HB3.out;exact⟨rfl,by have hr:=HG.out _ _ ([] ++ [⟨nd,pt,⟨pr,1,1,0⟩⟩]) mm hbf (by simpa[regsL] using ho) hov hmm;have hrs:=HRS.out;(try dsimp only at hrs);rw[←hrs];simpa using hr⟩
          exact AllReadyH.nil
        refine AllReadyH.cons (i:=15) (by simp only[gets];try rfl) (fun K hK=> ?_) ?_
        · go_simp;refine hK.out _ _ ?_ (fun hHeld=> ?_)
          · (try dsimp only);(first | exact⟨j4,j5,j6⟩ | go_keep | ((repeat' apply And.intro)<;>go_keep))
          clear hK K
          (try simp only[Act.put,puts])
          refine wpAnyH_ready (rs:=[5]) (by kernel_rfl) (by simp) ?_;refine AllReadyH.cons (i:=5) (by simp only[gets];try rfl) (fun K hK=> ?_) AllReadyH.nil;go_simp;refine hK.out _ _ ?_ (fun hHeld=> ?_)
          · (try dsimp only);(first | exact⟨j4,j5,j6⟩ | go_keep | ((repeat' apply And.intro)<;>go_keep))
          clear hK K
          (try simp only[Act.put,puts])
          refine wpAnyH_ready (rs:=[6]) (by kernel_rfl) (by simp) ?_;refine AllReadyH.cons (i:=6) (by simp only[gets];try rfl) (fun K hK=> ?_) AllReadyH.nil;refine step_nil rfl (.tmp 62) (.tmp 66) 114 rfl 0 199 i0 6 Tryz.underlying114 ei (.slice (some ⟨wr.heap.size,0,none⟩) 0 0) 0 [] (by rfl) HOEL.out (by rfl) ?_;refine hK.out _ _ ?_ (fun hHeld=> ?_)
          · (try dsimp only);(first | exact⟨k4,k5,k6⟩ | exact⟨j4,j5,j6⟩ | go_keep | ((repeat' apply And.intro)<;>go_keep))
          clear hK K
          (try simp only[Act.put,puts])
          refine wpAnyH_ready (rs:=[16]) (by kernel_rfl) (by simp) ?_;refine AllReadyH.cons (i:=16) (by simp only[gets];try rfl) (fun K hK=> ?_) AllReadyH.nil
          (refine step_reg rfl (.tmp 67) (.tmp 76) rfl (.slice (some ⟨wr.heap.size,0,none⟩) 0 0) 0 [] (by rfl) HOEL.out ⟨wr.heap.size+1,0,none⟩ 1 1 (regL ⟨nd,pt,⟨pr,1,1,0⟩⟩) (by rfl) rfl (lit_cells ((Blk.fresh (wr.alloc (.cells #[] 199)) #[nd,pt,pr,.int .i64 1,.int .i64 1,.int .i64 0] 199 (wr.heap.size+1) (by simp)).drew)) (regL_one _) p1.out.1 p1.out.2 ?_;intro v2 w2 hown2 hgrow2 hat2;obtain⟨HB3,HBr2,j8,j9,j10,k8,k9,-,-,-⟩:=reg_app (nd:=nd) (pt:=pt) (pr:=pr) HBr.out Q7.out HGF.out hg HM0.out ⟨_,Nat.le_refl _,rfl⟩ (by go_grown) (by go_grown) hgrow2 hat2;have HO2:=qq hown2;obtain⟨a2,cc2,rfl⟩:=row_slice hown2;clear hown2 hgrow2 hat2)
          refine hK.out _ _ ?_ (fun hHeld=> ?_)
          · (try dsimp only);(first | exact⟨j8,j9,j10⟩ | go_keep | ((repeat' apply And.intro)<;>go_keep))
          clear hK K
          (try simp only[Act.put,puts])
          refine takeU (d:=some 78) 17 rfl rfl hHeld (fun w' _=>by go_simp;(try rfl)) ?_;simp only[puts];refine takeU (d:=some 79) 18 rfl rfl hHeld (fun w' _=>by go_simp;(try rfl)) ?_;simp only[puts];refine wpAnyH_ready (rs:=[19]) (by kernel_rfl) (by simp) ?_;refine AllReadyH.cons (i:=19) (by simp only[gets];try rfl) (fun K hK=> ?_) AllReadyH.nil;go_simp;refine hK.out _ _ ?_ (fun hHeld=> ?_)
          · (try dsimp only);(first | exact⟨j8,j9,j10⟩ | go_keep | ((repeat' apply And.intro)<;>go_keep))
          clear hK K
          (try simp only[Act.put,puts])
          refine wpAnyH_done (by kernel_rfl) ?_ _;refine NoPanic.normal ?_;go_wp2_with fail;go_ret;have ho:=HO2.out;obtain⟨hbf,mm,hmm,hov⟩:=HB3.out;exact⟨rfl,by have hr:=HG.out _ _ ([] ++ [⟨nd,pt,⟨pr,1,1,0⟩⟩]) mm hbf (by simpa[regsL] using ho) hov hmm;have hrs:=HRS.out;(try dsimp only at hrs);rw[←hrs];simpa using hr⟩
        exact AllReadyH.nil
      refine AllReadyH.cons (i:=5) (by simp only[gets];try rfl) (fun K hK=> ?_) ?_
      · go_simp;refine hK.out _ _ ?_ (fun hHeld=> ?_)
        · (try dsimp only);(first | exact⟨j4,j5,j6⟩ | go_keep | ((repeat' apply And.intro)<;>go_keep))
        clear hK K
        (try simp only[Act.put,puts])
        refine wpAnyH_ready (rs:=[1,15]) (by kernel_rfl) (by simp) ?_;refine AllReadyH.cons (i:=1) (by simp only[gets];try rfl) (fun K hK=> ?_) ?_
        · go_simp;refine hK.out _ _ ?_ (fun hHeld=> ?_)
          · (try dsimp only);(first | exact⟨j4,j5,j6⟩ | go_keep | ((repeat' apply And.intro)<;>go_keep))
          clear hK K
          (try simp only[Act.put,puts])
          refine wpAnyH_ready (rs:=[6,15]) (by kernel_rfl) (by simp) ?_;refine AllReadyH.cons (i:=6) (by simp only[gets];try rfl) (fun K hK=> ?_) ?_
          · refine step_nil rfl (.tmp 62) (.tmp 66) 114 rfl 0 199 i0 6 Tryz.underlying114 ei (.slice (some ⟨wr.heap.size,0,none⟩) 0 0) 0 [] (by rfl) HOE.out (by rfl) ?_;refine hK.out _ _ ?_ (fun hHeld=> ?_)
            · (try dsimp only);(first | exact⟨k4,k5,k6⟩ | exact⟨j4,j5,j6⟩ | go_keep | ((repeat' apply And.intro)<;>go_keep))
            clear hK K
            (try simp only[Act.put,puts])
            refine wpAnyH_ready (rs:=[15]) (by kernel_rfl) (by simp) ?_;refine AllReadyH.cons (i:=15) (by simp only[gets];try rfl) (fun K hK=> ?_) AllReadyH.nil;go_simp;refine hK.out _ _ ?_ (fun hHeld=> ?_)
            · (try dsimp only);(first | exact⟨k4,k5,k6⟩ | exact⟨j4,j5,j6⟩ | go_keep | ((repeat' apply And.intro)<;>go_keep))
            clear hK K
            (try simp only[Act.put,puts])
            refine wpAnyH_ready (rs:=[16]) (by kernel_rfl) (by simp) ?_;refine AllReadyH.cons (i:=16) (by simp only[gets];try rfl) (fun K hK=> ?_) AllReadyH.nil
            (refine step_reg rfl (.tmp 67) (.tmp 76) rfl (.slice (some ⟨wr.heap.size,0,none⟩) 0 0) 0 [] (by rfl) HOEL.out ⟨wr.heap.size+1,0,none⟩ 1 1 (regL ⟨nd,pt,⟨pr,1,1,0⟩⟩) (by rfl) rfl (lit_cells ((Blk.fresh (wr.alloc (.cells #[] 199)) #[nd,pt,pr,.int .i64 1,.int .i64 1,.int .i64 0] 199 (wr.heap.size+1) (by simp)).drew)) (regL_one _) p1.out.1 p1.out.2 ?_;intro v2 w2 hown2 hgrow2 hat2;obtain⟨HB3,HBr2,j8,j9,j10,k8,k9,-,-,-⟩:=reg_app (nd:=nd) (pt:=pt) (pr:=pr) HBr.out Q7.out HGF.out hg HM0.out ⟨_,Nat.le_refl _,rfl⟩ (by go_grown) (by go_grown) hgrow2 hat2;have HO2:=qq hown2;obtain⟨a2,cc2,rfl⟩:=row_slice hown2;clear hown2 hgrow2 hat2)
            refine hK.out _ _ ?_ (fun hHeld=> ?_)
            · (try dsimp only);(first | exact⟨j8,j9,j10⟩ | go_keep | ((repeat' apply And.intro)<;>go_keep))
            clear hK K
            (try simp only[Act.put,puts])
            refine takeU (d:=some 78) 17 rfl rfl hHeld (fun w' _=>by go_simp;(try rfl)) ?_;simp only[puts];refine takeU (d:=some 79) 18 rfl rfl hHeld (fun w' _=>by go_simp;(try rfl)) ?_;simp only[puts];refine wpAnyH_ready (rs:=[19]) (by kernel_rfl) (by simp) ?_;refine AllReadyH.cons (i:=19) (by simp only[gets];try rfl) (fun K hK=> ?_) AllReadyH.nil;go_simp;refine hK.out _ _ ?_ (fun hHeld=> ?_)
            · (try dsimp only);(first | exact⟨j8,j9,j10⟩ | go_keep | ((repeat' apply And.intro)<;>go_keep))
            clear hK K
            (try simp only[Act.put,puts])
            refine wpAnyH_done (by kernel_rfl) ?_ _;refine NoPanic.normal ?_;go_wp2_with fail;go_ret;have ho:=HO2.out;obtain⟨hbf,mm,hmm,hov⟩:=HB3.out;exact⟨rfl,by have hr:=HG.out _ _ ([] ++ [⟨nd,pt,⟨pr,1,1,0⟩⟩]) mm hbf (by simpa[regsL] using ho) hov hmm;have hrs:=HRS.out;(try dsimp only at hrs);rw[←hrs];simpa using hr⟩
          refine AllReadyH.cons (i:=15) (by simp only[gets];try rfl) (fun K hK=> ?_) ?_
          · go_simp;refine hK.out _ _ ?_ (fun hHeld=> ?_)
            · (try dsimp only);(first | exact⟨j4,j5,j6⟩ | go_keep | ((repeat' apply And.intro)<;>go_keep))
            clear hK K
            (try simp only[Act.put,puts])
            refine wpAnyH_ready (rs:=[6]) (by kernel_rfl) (by simp) ?_;refine AllReadyH.cons (i:=6) (by simp only[gets];try rfl) (fun K hK=> ?_) AllReadyH.nil;refine step_nil rfl (.tmp 62) (.tmp 66) 114 rfl 0 199 i0 6 Tryz.underlying114 ei (.slice (some ⟨wr.heap.size,0,none⟩) 0 0) 0 [] (by rfl) HOEL.out (by rfl) ?_;refine hK.out _ _ ?_ (fun hHeld=> ?_)
            · (try dsimp only);(first | exact⟨k4,k5,k6⟩ | exact⟨j4,j5,j6⟩ | go_keep | ((repeat' apply And.intro)<;>go_keep))
            clear hK K
            (try simp only[Act.put,puts])
            refine wpAnyH_ready (rs:=[16]) (by kernel_rfl) (by simp) ?_;refine AllReadyH.cons (i:=16) (by simp only[gets];try rfl) (fun K hK=> ?_) AllReadyH.nil
            (refine step_reg rfl (.tmp 67) (.tmp 76) rfl (.slice (some ⟨wr.heap.size,0,none⟩) 0 0) 0 [] (by rfl) HOEL.out ⟨wr.heap.size+1,0,none⟩ 1 1 (regL ⟨nd,pt,⟨pr,1,1,0⟩⟩) (by rfl) rfl (lit_cells ((Blk.fresh (wr.alloc (.cells #[] 199)) #[nd,pt,pr,.int .i64 1,.int .i64 1,.int .i64 0] 199 (wr.heap.size+1) (by simp)).drew)) (regL_one _) p1.out.1 p1.out.2 ?_;intro v2 w2 hown2 hgrow2 hat2;obtain⟨HB3,HBr2,j8,j9,j10,k8,k9,-,-,-⟩:=reg_app (nd:=nd) (pt:=pt) (pr:=pr) HBr.out Q7.out HGF.out hg HM0.out ⟨_,Nat.le_refl _,rfl⟩ (by go_grown) (by go_grown) hgrow2 hat2;have HO2:=qq hown2;obtain⟨a2,cc2,rfl⟩:=row_slice hown2;clear hown2 hgrow2 hat2)
            refine hK.out _ _ ?_ (fun hHeld=> ?_)
            · (try dsimp only);(first | exact⟨j8,j9,j10⟩ | go_keep | ((repeat' apply And.intro)<;>go_keep))
            clear hK K
            (try simp only[Act.put,puts])
            refine takeU (d:=some 78) 17 rfl rfl hHeld (fun w' _=>by go_simp;(try rfl)) ?_;simp only[puts];refine takeU (d:=some 79) 18 rfl rfl hHeld (fun w' _=>by go_simp;(try rfl)) ?_;simp only[puts];refine wpAnyH_ready (rs:=[19]) (by kernel_rfl) (by simp) ?_;refine AllReadyH.cons (i:=19) (by simp only[gets];try rfl) (fun K hK=> ?_) AllReadyH.nil;go_simp;refine hK.out _ _ ?_ (fun hHeld=> ?_)
            · (try dsimp only);(first | exact⟨j8,j9,j10⟩ | go_keep | ((repeat' apply And.intro)<;>go_keep))
            clear hK K
            (try simp only[Act.put,puts])
            refine wpAnyH_done (by kernel_rfl) ?_ _;refine NoPanic.normal ?_;go_wp2_with fail;go_ret;have ho:=HO2.out;obtain⟨hbf,mm,hmm,hov⟩:=HB3.out;exact⟨rfl,by have hr:=HG.out _ _ ([] ++ [⟨nd,pt,⟨pr,1,1,0⟩⟩]) mm hbf (by simpa[regsL] using ho) hov hmm;have hrs:=HRS.out;(try dsimp only at hrs);rw[←hrs];simpa using hr⟩
          exact AllReadyH.nil
        refine AllReadyH.cons (i:=15) (by simp only[gets];try rfl) (fun K hK=> ?_) ?_
        · go_simp;refine hK.out _ _ ?_ (fun hHeld=> ?_)
          · (try dsimp only);(first | exact⟨j4,j5,j6⟩ | go_keep | ((repeat' apply And.intro)<;>go_keep))
          clear hK K
          (try simp only[Act.put,puts])
          refine wpAnyH_ready (rs:=[1]) (by kernel_rfl) (by simp) ?_;refine AllReadyH.cons (i:=1) (by simp only[gets];try rfl) (fun K hK=> ?_) AllReadyH.nil;go_simp;refine hK.out _ _ ?_ (fun hHeld=> ?_)
          · (try dsimp only);(first | exact⟨j4,j5,j6⟩ | go_keep | ((repeat' apply And.intro)<;>go_keep))
          clear hK K
          (try simp only[Act.put,puts])
          refine wpAnyH_ready (rs:=[6]) (by kernel_rfl) (by simp) ?_;refine AllReadyH.cons (i:=6) (by simp only[gets];try rfl) (fun K hK=> ?_) AllReadyH.nil;refine step_nil rfl (.tmp 62) (.tmp 66) 114 rfl 0 199 i0 6 Tryz.underlying114 ei (.slice (some ⟨wr.heap.size+1,0,none⟩) 0 0) 0 [] (by rfl) HOLE.out (by rfl) ?_;refine hK.out _ _ ?_ (fun hHeld=> ?_)
          · (try dsimp only);(first | exact⟨k4,k5,k6⟩ | exact⟨j4,j5,j6⟩ | go_keep | ((repeat' apply And.intro)<;>go_keep))
          clear hK K
          (try simp only[Act.put,puts])
          refine wpAnyH_ready (rs:=[16]) (by kernel_rfl) (by simp) ?_;refine AllReadyH.cons (i:=16) (by simp only[gets];try rfl) (fun K hK=> ?_) AllReadyH.nil
          (refine step_reg rfl (.tmp 67) (.tmp 76) rfl (.slice (some ⟨wr.heap.size+1,0,none⟩) 0 0) 0 [] (by rfl) HOLE.out ⟨wr.heap.size,0,none⟩ 1 1 (regL ⟨nd,pt,⟨pr,1,1,0⟩⟩) (by rfl) rfl (lit_cells (((Blk.fresh wr #[nd,pt,pr,.int .i64 1,.int .i64 1,.int .i64 0] 199 wr.heap.size rfl).alloc (.cells #[] 199)).drew)) (regL_one _) p1.out.1 p1.out.2 ?_;intro v2 w2 hown2 hgrow2 hat2;obtain⟨HB3,HBr2,j8,j9,j10,k8,k9,-,-,-⟩:=reg_app (nd:=nd) (pt:=pt) (pr:=pr) HBr.out Q7.out HGF.out hg HM1.out ⟨_,Nat.le_succ _,rfl⟩ (by go_grown) (by go_grown) hgrow2 hat2;have HO2:=qq hown2;obtain⟨a2,cc2,rfl⟩:=row_slice hown2;clear hown2 hgrow2 hat2)
          refine hK.out _ _ ?_ (fun hHeld=> ?_)
          · (try dsimp only);(first | exact⟨j8,j9,j10⟩ | go_keep | ((repeat' apply And.intro)<;>go_keep))
          clear hK K
          (try simp only[Act.put,puts])
          refine takeU (d:=some 78) 17 rfl rfl hHeld (fun w' _=>by go_simp;(try rfl)) ?_;simp only[puts];refine takeU (d:=some 79) 18 rfl rfl hHeld (fun w' _=>by go_simp;(try rfl)) ?_;simp only[puts];refine wpAnyH_ready (rs:=[19]) (by kernel_rfl) (by simp) ?_;refine AllReadyH.cons (i:=19) (by simp only[gets];try rfl) (fun K hK=> ?_) AllReadyH.nil;go_simp;refine hK.out _ _ ?_ (fun hHeld=> ?_)
          · (try dsimp only);(first | exact⟨j8,j9,j10⟩ | go_keep | ((repeat' apply And.intro)<;>go_keep))
          clear hK K
          (try simp only[Act.put,puts])
          refine wpAnyH_done (by kernel_rfl) ?_ _;refine NoPanic.normal ?_;go_wp2_with fail;go_ret;have ho:=HO2.out;obtain⟨hbf,mm,hmm,hov⟩:=HB3.out;exact⟨rfl,by have hr:=HG.out _ _ ([] ++ [⟨nd,pt,⟨pr,1,1,0⟩⟩]) mm hbf (by simpa[regsL] using ho) hov hmm;have hrs:=HRS.out;(try dsimp only at hrs);rw[←hrs];simpa using hr⟩
        exact AllReadyH.nil
      refine AllReadyH.cons (i:=15) (by simp only[gets];try rfl) (fun K hK=> ?_) ?_
      · go_simp;refine hK.out _ _ ?_ (fun hHeld=> ?_)
        · (try dsimp only);(first | exact⟨j4,j5,j6⟩ | go_keep | ((repeat' apply And.intro)<;>go_keep))
        clear hK K
        (try simp only[Act.put,puts])
        refine wpAnyH_ready (rs:=[1,5]) (by kernel_rfl) (by simp) ?_;refine AllReadyH.cons (i:=1) (by simp only[gets];try rfl) (fun K hK=> ?_) ?_
        · go_simp;refine hK.out _ _ ?_ (fun hHeld=> ?_)
          · (try dsimp only);(first | exact⟨j4,j5,j6⟩ | go_keep | ((repeat' apply And.intro)<;>go_keep))
          clear hK K
          (try simp only[Act.put,puts])
          refine wpAnyH_ready (rs:=[5]) (by kernel_rfl) (by simp) ?_;refine AllReadyH.cons (i:=5) (by simp only[gets];try rfl) (fun K hK=> ?_) AllReadyH.nil;go_simp;refine hK.out _ _ ?_ (fun hHeld=> ?_)
          · (try dsimp only);(first | exact⟨j4,j5,j6⟩ | go_keep | ((repeat' apply And.intro)<;>go_keep))
          clear hK K
          (try simp only[Act.put,puts])
          refine wpAnyH_ready (rs:=[6]) (by kernel_rfl) (by simp) ?_;refine AllReadyH.cons (i:=6) (by simp only[gets];try rfl) (fun K hK=> ?_) AllReadyH.nil;refine step_nil rfl (.tmp 62) (.tmp 66) 114 rfl 0 199 i0 6 Tryz.underlying114 ei (.slice (some ⟨wr.heap.size+1,0,none⟩) 0 0) 0 [] (by rfl) HOLE.out (by rfl) ?_;refine hK.out _ _ ?_ (fun hHeld=> ?_)
          · (try dsimp only);(first | exact⟨k4,k5,k6⟩ | exact⟨j4,j5,j6⟩ | go_keep | ((repeat' apply And.intro)<;>go_keep))
          clear hK K
          (try simp only[Act.put,puts])
          refine wpAnyH_ready (rs:=[16]) (by kernel_rfl) (by simp) ?_;refine AllReadyH.cons (i:=16) (by simp only[gets];try rfl) (fun K hK=> ?_) AllReadyH.nil
          (refine step_reg rfl (.tmp 67) (.tmp 76) rfl (.slice (some ⟨wr.heap.size+1,0,none⟩) 0 0) 0 [] (by rfl) HOLE.out ⟨wr.heap.size,0,none⟩ 1 1 (regL ⟨nd,pt,⟨pr,1,1,0⟩⟩) (by rfl) rfl (lit_cells (((Blk.fresh wr #[nd,pt,pr,.int .i64 1,.int .i64 1,.int .i64 0] 199 wr.heap.size rfl).alloc (.cells #[] 199)).drew)) (regL_one _) p1.out.1 p1.out.2 ?_;intro v2 w2 hown2 hgrow2 hat2;obtain⟨HB3,HBr2,j8,j9,j10,k8,k9,-,-,-⟩:=reg_app (nd:=nd) (pt:=pt) (pr:=pr) HBr.out Q7.out HGF.out hg HM1.out ⟨_,Nat.le_succ _,rfl⟩ (by go_grown) (by go_grown) hgrow2 hat2;have HO2:=qq hown2;obtain⟨a2,cc2,rfl⟩:=row_slice hown2;clear hown2 hgrow2 hat2)
          refine hK.out _ _ ?_ (fun hHeld=> ?_)
          · (try dsimp only);(first | exact⟨j8,j9,j10⟩ | go_keep | ((repeat' apply And.intro)<;>go_keep))
          clear hK K
          (try simp only[Act.put,puts])
          refine takeU (d:=some 78) 17 rfl rfl hHeld (fun w' _=>by go_simp;(try rfl)) ?_;simp only[puts];refine takeU (d:=some 79) 18 rfl rfl hHeld (fun w' _=>by go_simp;(try rfl)) ?_;simp only[puts];refine wpAnyH_ready (rs:=[19]) (by kernel_rfl) (by simp) ?_;refine AllReadyH.cons (i:=19) (by simp only[gets];try rfl) (fun K hK=> ?_) AllReadyH.nil;go_simp;refine hK.out _ _ ?_ (fun hHeld=> ?_)
          · (try dsimp only);(first | exact⟨j8,j9,j10⟩ | go_keep | ((repeat' apply And.intro)<;>go_keep))
          clear hK K
          (try simp only[Act.put,puts])
          refine wpAnyH_done (by kernel_rfl) ?_ _;refine NoPanic.normal ?_;go_wp2_with fail;go_ret;have ho:=HO2.out;obtain⟨hbf,mm,hmm,hov⟩:=HB3.out;exact⟨rfl,by have hr:=HG.out _ _ ([] ++ [⟨nd,pt,⟨pr,1,1,0⟩⟩]) mm hbf (by simpa[regsL] using ho) hov hmm;have hrs:=HRS.out;(try dsimp only at hrs);rw[←hrs];simpa using hr⟩
        refine AllReadyH.cons (i:=5) (by simp only[gets];try rfl) (fun K hK=> ?_) ?_
        · go_simp;refine hK.out _ _ ?_ (fun hHeld=> ?_)
          · (try dsimp only);(first | exact⟨j4,j5,j6⟩ | go_keep | ((repeat' apply And.intro)<;>go_keep))
          clear hK K
          (try simp only[Act.put,puts])
          refine wpAnyH_ready (rs:=[1]) (by kernel_rfl) (by simp) ?_;refine AllReadyH.cons (i:=1) (by simp only[gets];try rfl) (fun K hK=> ?_) AllReadyH.nil;go_simp;refine hK.out _ _ ?_ (fun hHeld=> ?_)
          · (try dsimp only);(first | exact⟨j4,j5,j6⟩ | go_keep | ((repeat' apply And.intro)<;>go_keep))
          clear hK K
          (try simp only[Act.put,puts])
          refine wpAnyH_ready (rs:=[6]) (by kernel_rfl) (by simp) ?_;refine AllReadyH.cons (i:=6) (by simp only[gets];try rfl) (fun K hK=> ?_) AllReadyH.nil;refine step_nil rfl (.tmp 62) (.tmp 66) 114 rfl 0 199 i0 6 Tryz.underlying114 ei (.slice (some ⟨wr.heap.size+1,0,none⟩) 0 0) 0 [] (by rfl) HOLE.out (by rfl) ?_;refine hK.out _ _ ?_ (fun hHeld=> ?_)
          · (try dsimp only);(first | exact⟨k4,k5,k6⟩ | exact⟨j4,j5,j6⟩ | go_keep | ((repeat' apply And.intro)<;>go_keep))
          clear hK K
          (try simp only[Act.put,puts])
          refine wpAnyH_ready (rs:=[16]) (by kernel_rfl) (by simp) ?_;refine AllReadyH.cons (i:=16) (by simp only[gets];try rfl) (fun K hK=> ?_) AllReadyH.nil
          (refine step_reg rfl (.tmp 67) (.tmp 76) rfl (.slice (some ⟨wr.heap.size+1,0,none⟩) 0 0) 0 [] (by rfl) HOLE.out ⟨wr.heap.size,0,none⟩ 1 1 (regL ⟨nd,pt,⟨pr,1,1,0⟩⟩) (by rfl) rfl (lit_cells (((Blk.fresh wr #[nd,pt,pr,.int .i64 1,.int .i64 1,.int .i64 0] 199 wr.heap.size rfl).alloc (.cells #[] 199)).drew)) (regL_one _) p1.out.1 p1.out.2 ?_;intro v2 w2 hown2 hgrow2 hat2;obtain⟨HB3,HBr2,j8,j9,j10,k8,k9,-,-,-⟩:=reg_app (nd:=nd) (pt:=pt) (pr:=pr) HBr.out Q7.out HGF.out hg HM1.out ⟨_,Nat.le_succ _,rfl⟩ (by go_grown) (by go_grown) hgrow2 hat2;have HO2:=qq hown2;obtain⟨a2,cc2,rfl⟩:=row_slice hown2;clear hown2 hgrow2 hat2)
          refine hK.out _ _ ?_ (fun hHeld=> ?_)
          · (try dsimp only);(first | exact⟨j8,j9,j10⟩ | go_keep | ((repeat' apply And.intro)<;>go_keep))
          clear hK K
          (try simp only[Act.put,puts])
          refine takeU (d:=some 78) 17 rfl rfl hHeld (fun w' _=>by go_simp;(try rfl)) ?_;simp only[puts];refine takeU (d:=some 79) 18 rfl rfl hHeld (fun w' _=>by go_simp;(try rfl)) ?_;simp only[puts];refine wpAnyH_ready (rs:=[19]) (by kernel_rfl) (by simp) ?_;refine AllReadyH.cons (i:=19) (by simp only[gets];try rfl) (fun K hK=> ?_) AllReadyH.nil;go_simp;refine hK.out _ _ ?_ (fun hHeld=> ?_)
          · (try dsimp only);(first | exact⟨j8,j9,j10⟩ | go_keep | ((repeat' apply And.intro)<;>go_keep))
          clear hK K
          (try simp only[Act.put,puts])
          refine wpAnyH_done (by kernel_rfl) ?_ _;refine NoPanic.normal ?_;go_wp2_with fail;go_ret;have ho:=HO2.out;obtain⟨hbf,mm,hmm,hov⟩:=HB3.out;exact⟨rfl,by have hr:=HG.out _ _ ([] ++ [⟨nd,pt,⟨pr,1,1,0⟩⟩]) mm hbf (by simpa[regsL] using ho) hov hmm;have hrs:=HRS.out;(try dsimp only at hrs);rw[←hrs];simpa using hr⟩
        exact AllReadyH.nil
      exact AllReadyH.nil
    · obtain⟨rfl,rfl⟩:ra=some ⟨rb,0,none⟩∧rcap=rcap':=by simpa using hrv2
      have hrbl:rb<w.heap.size:=(HRV.out.lt rb rfl).2;have hrc:∀t u,(regsL rs)[t]? =some u→w.cell? ((⟨rb,0,none⟩:Addr).add t)=some u:=HRV.out.cells (g:=rb) rfl;have CE:=qq (src_new (w1:=(World.drew (wr.alloc (.cells #[] 199)))) hrc (by go_grown) (fun t=>by rw[Addr.add_lit]) hrbl)
      have CEL:=qq (src_new (w1:=(World.drew ((wr.alloc (.cells #[] 199)).alloc (.cells #[nd,pt,pr,.int .i64 1,.int .i64 1,.int .i64 0] 199)))) hrc (by go_grown) (fun t=>by rw[Addr.add_lit]) hrbl);have CLE:=qq (src_new (w1:=(World.drew ((wr.alloc (.cells #[nd,pt,pr,.int .i64 1,.int .i64 1,.int .i64 0] 199)).alloc (.cells #[] 199)))) hrc (by go_grown) (fun t=>by rw[Addr.add_lit]) hrbl)
      have HM0:=qq (show ∃m,w.heap.size≤m∧(Value.slice (some ⟨wr.heap.size,0,none⟩) 0 0).ownBlock=some m from⟨wr.heap.size,by omega,rfl⟩);have HM1:=qq (show ∃m,w.heap.size≤m∧(Value.slice (some ⟨wr.heap.size+1,0,none⟩) 0 0).ownBlock=some m from⟨wr.heap.size+1,by omega,rfl⟩)
      have p1:=qq (show 0+k≤maxLen∧(0+k)*48≤140737488355328∧0+k+1≤maxLen∧(0+k+1)*48≤140737488355328 from⟨by unfold maxLen;omega,by omega,by unfold maxLen;omega,by omega⟩);have j7:=(hB.cell (p:=⟨g,i*8+7,none⟩) hg).trans Q7.out;have hgw1:g≠w.heap.size:=by omega
      have hgw2:w.heap.size≠g:=by omega
      clear hrc hrv2 hrbh hrest hrb0;go_wp2_with fail;refine wp_region_noPanic ?_;refine wp_region_held_drew (S:=(fun w'=>w'.cell? ⟨w.heap.size,4,none⟩=some (.int .i64 nd)∧w'.cell? ⟨w.heap.size,5,none⟩=some (.int .i64 pt)∧w'.cell? ⟨w.heap.size,6,none⟩=some (.int .i64 pr))) (by kernel_rfl) ?_ (fun hHeld=> ?_)
      · (try dsimp only);(first | exact⟨j4,j5,j6⟩ | exact⟨k4,k5,k6⟩ | exact⟨j8,j9,j10⟩ | go_keep | ((repeat' apply And.intro)<;>go_keep))
      refine takeU (d:=some 61) 0 rfl rfl hHeld (fun w' _=>by go_simp;(try rfl)) ?_;simp only[puts];refine takeU (d:=some 63) 2 rfl rfl hHeld (fun w' _=>by go_simp;(try rfl)) ?_;simp only[puts];refine takeU (d:=some 64) 3 rfl rfl hHeld (fun w' _=>by go_simp;(try rfl)) ?_;simp only[puts];refine takeU (d:=some 65) 4 rfl rfl hHeld (fun w' _=>by go_simp;(try rfl)) ?_;simp only[puts]
      refine takeU (d:=some 68) 7 rfl rfl hHeld (fun w' _=>by go_simp;(try rfl)) ?_;simp only[puts];refine takeU (d:=some 69) 8 rfl rfl hHeld (fun w' hS'=>by obtain⟨qA,qB,qC⟩:=hS';go_simp;(try rfl)) ?_;simp only[puts];refine takeU (d:=some 70) 9 rfl rfl hHeld (fun w' _=>by go_simp;(try rfl)) ?_;simp only[puts]
      refine takeU (d:=some 71) 10 rfl rfl hHeld (fun w' hS'=>by obtain⟨qA,qB,qC⟩:=hS';go_simp;(try rfl)) ?_;simp only[puts];refine takeU (d:=some 72) 11 rfl rfl hHeld (fun w' _=>by go_simp;(try rfl)) ?_;simp only[puts];refine takeU (d:=some 73) 12 rfl rfl hHeld (fun w' hS'=>by obtain⟨qA,qB,qC⟩:=hS';go_simp;(try rfl)) ?_;simp only[puts]
      refine takeU (d:=some 74) 13 rfl rfl hHeld (fun w' _=>by go_simp;(try rfl)) ?_;simp only[puts];refine takeU (d:=some 75) 14 rfl rfl hHeld (fun w' _=>by go_simp;(try rfl)) ?_;simp only[puts];refine wpAnyH_ready (rs:=[1,5,15]) (by kernel_rfl) (by simp) ?_;refine AllReadyH.cons (i:=1) (by simp only[gets];try rfl) (fun K hK=> ?_) ?_
      · go_simp;refine hK.out _ _ ?_ (fun hHeld=> ?_)
        · (try dsimp only);(first | exact⟨j4,j5,j6⟩ | go_keep | ((repeat' apply And.intro)<;>go_keep))
        clear hK K
        (try simp only[Act.put,puts])
        refine wpAnyH_ready (rs:=[5,15]) (by kernel_rfl) (by simp) ?_;refine AllReadyH.cons (i:=5) (by simp only[gets];try rfl) (fun K hK=> ?_) ?_
        · go_simp;refine hK.out _ _ ?_ (fun hHeld=> ?_)
          · (try dsimp only);(first | exact⟨j4,j5,j6⟩ | go_keep | ((repeat' apply And.intro)<;>go_keep))
          clear hK K
          (try simp only[Act.put,puts])
          refine wpAnyH_ready (rs:=[6,15]) (by kernel_rfl) (by simp) ?_;refine AllReadyH.cons (i:=6) (by simp only[gets];try rfl) (fun K hK=> ?_) ?_
          · (refine step_reg rfl (.tmp 62) (.tmp 66) rfl (.slice (some ⟨wr.heap.size,0,none⟩) 0 0) 0 [] (by rfl) HOE.out ⟨rb,0,none⟩ k rcap (regsL rs) (by rfl) HL1.out CE.out HO1'.out p1.out.1 p1.out.2.1 ?_;intro v1 w1 hown1 hgrow1 hat1;obtain⟨HB1,HBr1,k4,k5,k6,k7,-,hz1,hz2,hz3⟩:=reg_app (nd:=nd) (pt:=pt) (pr:=pr) HBr.out Q7.out HGF.out hg HM0.out ⟨_,Nat.le_refl _,rfl⟩ (by go_grown) (by go_grown) hgrow1 hat1;have HO1:=qq hown1;clear hown1 hgrow1 hat1)
            refine hK.out _ _ ?_ (fun hHeld=> ?_)
            · (try dsimp only);(first | exact⟨k4,k5,k6⟩ | exact⟨j4,j5,j6⟩ | go_keep | ((repeat' apply And.intro)<;>go_keep))
            clear hK K
            (try simp only[Act.put,puts])
            refine wpAnyH_ready (rs:=[15]) (by kernel_rfl) (by simp) ?_;refine AllReadyH.cons (i:=15) (by simp only[gets];try rfl) (fun K hK=> ?_) AllReadyH.nil;go_simp;refine hK.out _ _ ?_ (fun hHeld=> ?_)
            · (try dsimp only);(first | exact⟨k4,k5,k6⟩ | exact⟨j4,j5,j6⟩ | go_keep | ((repeat' apply And.intro)<;>go_keep))
            clear hK K
            (try simp only[Act.put,puts])
            refine wpAnyH_ready (rs:=[16]) (by kernel_rfl) (by simp) ?_;refine AllReadyH.cons (i:=16) (by simp only[gets];try rfl) (fun K hK=> ?_) AllReadyH.nil
            (refine step_reg rfl (.tmp 67) (.tmp 76) rfl v1 (0+k) ([] ++regsL rs) (by rfl) (HO1.out.alloc _) ⟨w1.heap.size,0,none⟩ 1 1 (regL ⟨nd,pt,⟨pr,1,1,0⟩⟩) (by rfl) rfl (lit_cells (Blk.fresh _ _ _ _ (by simp))) (regL_one _) p1.out.2.2.1 p1.out.2.2.2 ?_;intro v2 w2 hown2 hgrow2 hat2;obtain⟨HB3,HBr2,j8,j9,j10,k8,k9,-,-,-⟩:=reg_app (nd:=nd) (pt:=pt) (pr:=pr) HBr.out Q7.out HGF.out hg HB1.out.2 HBr1.out.2 (below_then HB1.out.1 (by go_grown)) (below_then HBr1.out.1 (by go_grown)) hgrow2 hat2;have HO2:=qq hown2;obtain⟨a2,cc2,rfl⟩:=row_slice hown2;clear hown2 hgrow2 hat2)
            refine hK.out _ _ ?_ (fun hHeld=> ?_)
            · (try dsimp only);(first | exact⟨j8,j9,j10⟩ | go_keep | ((repeat' apply And.intro)<;>go_keep))
            clear hK K
            (try simp only[Act.put,puts])
            refine takeU (d:=some 78) 17 rfl rfl hHeld (fun w' _=>by go_simp;(try rfl)) ?_;simp only[puts];refine takeU (d:=some 79) 18 rfl rfl hHeld (fun w' _=>by go_simp;(try rfl)) ?_;simp only[puts];refine wpAnyH_ready (rs:=[19]) (by kernel_rfl) (by simp) ?_;refine AllReadyH.cons (i:=19) (by simp only[gets];try rfl) (fun K hK=> ?_) AllReadyH.nil;go_simp;refine hK.out _ _ ?_ (fun hHeld=> ?_)
            · (try dsimp only);(first | exact⟨j8,j9,j10⟩ | go_keep | ((repeat' apply And.intro)<;>go_keep))
            clear hK K
            (try simp only[Act.put,puts])
            refine wpAnyH_done (by kernel_rfl) ?_ _;refine NoPanic.normal ?_;go_wp2_with fail;go_ret;have ho:=HO2.out;obtain⟨hbf,mm,hmm,hov⟩:=HB3.out;exact⟨rfl,by have hr:=HG.out _ _ (rs ++ [⟨nd,pt,⟨pr,1,1,0⟩⟩]) mm hbf (by simpa[regsL,←HM.out] using ho) hov hmm;have hrs:=HRS.out;(try dsimp only at hrs);rw[←hrs];simpa using hr⟩
          refine AllReadyH.cons (i:=15) (by simp only[gets];try rfl) (fun K hK=> ?_) ?_
          · go_simp;refine hK.out _ _ ?_ (fun hHeld=> ?_)
            · (try dsimp only);(first | exact⟨j4,j5,j6⟩ | go_keep | ((repeat' apply And.intro)<;>go_keep))
            clear hK K
            (try simp only[Act.put,puts])
            refine wpAnyH_ready (rs:=[6]) (by kernel_rfl) (by simp) ?_;refine AllReadyH.cons (i:=6) (by simp only[gets];try rfl) (fun K hK=> ?_) AllReadyH.nil
            (refine step_reg rfl (.tmp 62) (.tmp 66) rfl (.slice (some ⟨wr.heap.size,0,none⟩) 0 0) 0 [] (by rfl) HOEL.out ⟨rb,0,none⟩ k rcap (regsL rs) (by rfl) HL1.out CEL.out HO1'.out p1.out.1 p1.out.2.1 ?_;intro v1 w1 hown1 hgrow1 hat1;obtain⟨HB1,HBr1,k4,k5,k6,k7,-,hz1,hz2,hz3⟩:=reg_app (nd:=nd) (pt:=pt) (pr:=pr) HBr.out Q7.out HGF.out hg HM0.out ⟨_,Nat.le_refl _,rfl⟩ (by go_grown) (by go_grown) hgrow1 hat1;have HO1:=qq hown1;have HLB:=qq (blk_grown ((Blk.fresh (wr.alloc (.cells #[] 199)) #[nd,pt,pr,.int .i64 1,.int .i64 1,.int .i64 0] 199 (wr.heap.size+1) (by simp)).drew) hgrow1 (fun e=>by simp[Value.ownBlock] at e));clear hown1 hgrow1 hat1)
            refine hK.out _ _ ?_ (fun hHeld=> ?_)
            · (try dsimp only);(first | exact⟨k4,k5,k6⟩ | exact⟨j4,j5,j6⟩ | go_keep | ((repeat' apply And.intro)<;>go_keep))
            clear hK K
            (try simp only[Act.put,puts])
            refine wpAnyH_ready (rs:=[16]) (by kernel_rfl) (by simp) ?_;refine AllReadyH.cons (i:=16) (by simp only[gets];try rfl) (fun K hK=> ?_) AllReadyH.nil
            (refine step_reg rfl (.tmp 67) (.tmp 76) rfl v1 (0+k) ([] ++regsL rs) (by rfl) HO1.out ⟨wr.heap.size+1,0,none⟩ 1 1 (regL ⟨nd,pt,⟨pr,1,1,0⟩⟩) (by rfl) rfl (lit_cells HLB.out) (regL_one _) p1.out.2.2.1 p1.out.2.2.2 ?_;intro v2 w2 hown2 hgrow2 hat2;obtain⟨HB3,HBr2,j8,j9,j10,k8,k9,-,-,-⟩:=reg_app (nd:=nd) (pt:=pt) (pr:=pr) HBr.out Q7.out HGF.out hg HB1.out.2 HBr1.out.2 (below_then HB1.out.1 (by go_grown)) (below_then HBr1.out.1 (by go_grown)) hgrow2 hat2;have HO2:=qq hown2;obtain⟨a2,cc2,rfl⟩:=row_slice hown2;clear hown2 hgrow2 hat2)
            refine hK.out _ _ ?_ (fun hHeld=> ?_)
            · (try dsimp only);(first | exact⟨j8,j9,j10⟩ | go_keep | ((repeat' apply And.intro)<;>go_keep))
            clear hK K
            (try simp only[Act.put,puts])
            refine takeU (d:=some 78) 17 rfl rfl hHeld (fun w' _=>by go_simp;(try rfl)) ?_;simp only[puts];refine takeU (d:=some 79) 18 rfl rfl hHeld (fun w' _=>by go_simp;(try rfl)) ?_;simp only[puts];refine wpAnyH_ready (rs:=[19]) (by kernel_rfl) (by simp) ?_;refine AllReadyH.cons (i:=19) (by simp only[gets];try rfl) (fun K hK=> ?_) AllReadyH.nil;go_simp;refine hK.out _ _ ?_ (fun hHeld=> ?_)
            · (try dsimp only);(first | exact⟨j8,j9,j10⟩ | go_keep | ((repeat' apply And.intro)<;>go_keep))
            clear hK K
            (try simp only[Act.put,puts])
            refine wpAnyH_done (by kernel_rfl) ?_ _;refine NoPanic.normal ?_;go_wp2_with fail;go_ret;have ho:=HO2.out;obtain⟨hbf,mm,hmm,hov⟩:=HB3.out;exact⟨rfl,by have hr:=HG.out _ _ (rs ++ [⟨nd,pt,⟨pr,1,1,0⟩⟩]) mm hbf (by simpa[regsL,←HM.out] using ho) hov hmm;have hrs:=HRS.out;(try dsimp only at hrs);rw[←hrs];simpa using hr⟩
          exact AllReadyH.nil
        refine AllReadyH.cons (i:=15) (by simp only[gets];try rfl) (fun K hK=> ?_) ?_
        · go_simp;refine hK.out _ _ ?_ (fun hHeld=> ?_)
          · (try dsimp only);(first | exact⟨j4,j5,j6⟩ | go_keep | ((repeat' apply And.intro)<;>go_keep))
          clear hK K
          (try simp only[Act.put,puts])
          refine wpAnyH_ready (rs:=[5]) (by kernel_rfl) (by simp) ?_;refine AllReadyH.cons (i:=5) (by simp only[gets];try rfl) (fun K hK=> ?_) AllReadyH.nil;go_simp;refine hK.out _ _ ?_ (fun hHeld=> ?_)
          · (try dsimp only);(first | exact⟨j4,j5,j6⟩ | go_keep | ((repeat' apply And.intro)<;>go_keep))
          clear hK K
          (try simp only[Act.put,puts])
          refine wpAnyH_ready (rs:=[6]) (by kernel_rfl) (by simp) ?_;refine AllReadyH.cons (i:=6) (by simp only[gets];try rfl) (fun K hK=> ?_) AllReadyH.nil
          (refine step_reg rfl (.tmp 62) (.tmp 66) rfl (.slice (some ⟨wr.heap.size,0,none⟩) 0 0) 0 [] (by rfl) HOEL.out ⟨rb,0,none⟩ k rcap (regsL rs) (by rfl) HL1.out CEL.out HO1'.out p1.out.1 p1.out.2.1 ?_;intro v1 w1 hown1 hgrow1 hat1;obtain⟨HB1,HBr1,k4,k5,k6,k7,-,hz1,hz2,hz3⟩:=reg_app (nd:=nd) (pt:=pt) (pr:=pr) HBr.out Q7.out HGF.out hg HM0.out ⟨_,Nat.le_refl _,rfl⟩ (by go_grown) (by go_grown) hgrow1 hat1;have HO1:=qq hown1;have HLB:=qq (blk_grown ((Blk.fresh (wr.alloc (.cells #[] 199)) #[nd,pt,pr,.int .i64 1,.int .i64 1,.int .i64 0] 199 (wr.heap.size+1) (by simp)).drew) hgrow1 (fun e=>by simp[Value.ownBlock] at e));clear hown1 hgrow1 hat1)
          refine hK.out _ _ ?_ (fun hHeld=> ?_)
          · (try dsimp only);(first | exact⟨k4,k5,k6⟩ | exact⟨j4,j5,j6⟩ | go_keep | ((repeat' apply And.intro)<;>go_keep))
          clear hK K
          (try simp only[Act.put,puts])
          refine wpAnyH_ready (rs:=[16]) (by kernel_rfl) (by simp) ?_;refine AllReadyH.cons (i:=16) (by simp only[gets];try rfl) (fun K hK=> ?_) AllReadyH.nil
          (refine step_reg rfl (.tmp 67) (.tmp 76) rfl v1 (0+k) ([] ++regsL rs) (by rfl) HO1.out ⟨wr.heap.size+1,0,none⟩ 1 1 (regL ⟨nd,pt,⟨pr,1,1,0⟩⟩) (by rfl) rfl (lit_cells HLB.out) (regL_one _) p1.out.2.2.1 p1.out.2.2.2 ?_;intro v2 w2 hown2 hgrow2 hat2;obtain⟨HB3,HBr2,j8,j9,j10,k8,k9,-,-,-⟩:=reg_app (nd:=nd) (pt:=pt) (pr:=pr) HBr.out Q7.out HGF.out hg HB1.out.2 HBr1.out.2 (below_then HB1.out.1 (by go_grown)) (below_then HBr1.out.1 (by go_grown)) hgrow2 hat2;have HO2:=qq hown2;obtain⟨a2,cc2,rfl⟩:=row_slice hown2;clear hown2 hgrow2 hat2)
          refine hK.out _ _ ?_ (fun hHeld=> ?_)
          · (try dsimp only);(first | exact⟨j8,j9,j10⟩ | go_keep | ((repeat' apply And.intro)<;>go_keep))
          clear hK K
          (try simp only[Act.put,puts])
          refine takeU (d:=some 78) 17 rfl rfl hHeld (fun w' _=>by go_simp;(try rfl)) ?_;simp only[puts];refine takeU (d:=some 79) 18 rfl rfl hHeld (fun w' _=>by go_simp;(try rfl)) ?_;simp only[puts];refine wpAnyH_ready (rs:=[19]) (by kernel_rfl) (by simp) ?_;refine AllReadyH.cons (i:=19) (by simp only[gets];try rfl) (fun K hK=> ?_) AllReadyH.nil;go_simp;refine hK.out _ _ ?_ (fun hHeld=> ?_)
          · (try dsimp only);(first | exact⟨j8,j9,j10⟩ | go_keep | ((repeat' apply And.intro)<;>go_keep))
          clear hK K
          (try simp only[Act.put,puts])
          refine wpAnyH_done (by kernel_rfl) ?_ _;refine NoPanic.normal ?_;go_wp2_with fail;go_ret;have ho:=HO2.out;obtain⟨hbf,mm,hmm,hov⟩:=HB3.out;exact⟨rfl,by have hr:=HG.out _ _ (rs ++ [⟨nd,pt,⟨pr,1,1,0⟩⟩]) mm hbf (by simpa[regsL,←HM.out] using ho) hov hmm;have hrs:=HRS.out;(try dsimp only at hrs);rw[←hrs];simpa using hr⟩
        exact AllReadyH.nil
      refine AllReadyH.cons (i:=5) (by simp only[gets];try rfl) (fun K hK=> ?_) ?_
      · go_simp;refine hK.out _ _ ?_ (fun hHeld=> ?_)
        · (try dsimp only);(first | exact⟨j4,j5,j6⟩ | go_keep | ((repeat' apply And.intro)<;>go_keep))
        clear hK K
        (try simp only[Act.put,puts])
        refine wpAnyH_ready (rs:=[1,15]) (by kernel_rfl) (by simp) ?_;refine AllReadyH.cons (i:=1) (by simp only[gets];try rfl) (fun K hK=> ?_) ?_
        · go_simp;refine hK.out _ _ ?_ (fun hHeld=> ?_)
          · (try dsimp only);(first | exact⟨j4,j5,j6⟩ | go_keep | ((repeat' apply And.intro)<;>go_keep))
          clear hK K
          (try simp only[Act.put,puts])
          refine wpAnyH_ready (rs:=[6,15]) (by kernel_rfl) (by simp) ?_;refine AllReadyH.cons (i:=6) (by simp only[gets];try rfl) (fun K hK=> ?_) ?_
          · (refine step_reg rfl (.tmp 62) (.tmp 66) rfl (.slice (some ⟨wr.heap.size,0,none⟩) 0 0) 0 [] (by rfl) HOE.out ⟨rb,0,none⟩ k rcap (regsL rs) (by rfl) HL1.out CE.out HO1'.out p1.out.1 p1.out.2.1 ?_;intro v1 w1 hown1 hgrow1 hat1;obtain⟨HB1,HBr1,k4,k5,k6,k7,-,hz1,hz2,hz3⟩:=reg_app (nd:=nd) (pt:=pt) (pr:=pr) HBr.out Q7.out HGF.out hg HM0.out ⟨_,Nat.le_refl _,rfl⟩ (by go_grown) (by go_grown) hgrow1 hat1;have HO1:=qq hown1;clear hown1 hgrow1 hat1)
            refine hK.out _ _ ?_ (fun hHeld=> ?_)
            · (try dsimp only);(first | exact⟨k4,k5,k6⟩ | exact⟨j4,j5,j6⟩ | go_keep | ((repeat' apply And.intro)<;>go_keep))
            clear hK K
            (try simp only[Act.put,puts])
            refine wpAnyH_ready (rs:=[15]) (by kernel_rfl) (by simp) ?_;refine AllReadyH.cons (i:=15) (by simp only[gets];try rfl) (fun K hK=> ?_) AllReadyH.nil;go_simp;refine hK.out _ _ ?_ (fun hHeld=> ?_)
            · (try dsimp only);(first | exact⟨k4,k5,k6⟩ | exact⟨j4,j5,j6⟩ | go_keep | ((repeat' apply And.intro)<;>go_keep))
            clear hK K
            (try simp only[Act.put,puts])
            refine wpAnyH_ready (rs:=[16]) (by kernel_rfl) (by simp) ?_;refine AllReadyH.cons (i:=16) (by simp only[gets];try rfl) (fun K hK=> ?_) AllReadyH.nil
            (refine step_reg rfl (.tmp 67) (.tmp 76) rfl v1 (0+k) ([] ++regsL rs) (by rfl) (HO1.out.alloc _) ⟨w1.heap.size,0,none⟩ 1 1 (regL ⟨nd,pt,⟨pr,1,1,0⟩⟩) (by rfl) rfl (lit_cells (Blk.fresh _ _ _ _ (by simp))) (regL_one _) p1.out.2.2.1 p1.out.2.2.2 ?_;intro v2 w2 hown2 hgrow2 hat2;obtain⟨HB3,HBr2,j8,j9,j10,k8,k9,-,-,-⟩:=reg_app (nd:=nd) (pt:=pt) (pr:=pr) HBr.out Q7.out HGF.out hg HB1.out.2 HBr1.out.2 (below_then HB1.out.1 (by go_grown)) (below_then HBr1.out.1 (by go_grown)) hgrow2 hat2;have HO2:=qq hown2;obtain⟨a2,cc2,rfl⟩:=row_slice hown2;clear hown2 hgrow2 hat2)
            refine hK.out _ _ ?_ (fun hHeld=> ?_)
            · (try dsimp only);(first | exact⟨j8,j9,j10⟩ | go_keep | ((repeat' apply And.intro)<;>go_keep))
            clear hK K
            (try simp only[Act.put,puts])
            refine takeU (d:=some 78) 17 rfl rfl hHeld (fun w' _=>by go_simp;(try rfl)) ?_;simp only[puts];refine takeU (d:=some 79) 18 rfl rfl hHeld (fun w' _=>by go_simp;(try rfl)) ?_;simp only[puts];refine wpAnyH_ready (rs:=[19]) (by kernel_rfl) (by simp) ?_;refine AllReadyH.cons (i:=19) (by simp only[gets];try rfl) (fun K hK=> ?_) AllReadyH.nil;go_simp;refine hK.out _ _ ?_ (fun hHeld=> ?_)
            · (try dsimp only);(first | exact⟨j8,j9,j10⟩ | go_keep | ((repeat' apply And.intro)<;>go_keep))
            clear hK K
            (try simp only[Act.put,puts])
            refine wpAnyH_done (by kernel_rfl) ?_ _;refine NoPanic.normal ?_;go_wp2_with fail;go_ret;have ho:=HO2.out;obtain⟨hbf,mm,hmm,hov⟩:=HB3.out;exact⟨rfl,by have hr:=HG.out _ _ (rs ++ [⟨nd,pt,⟨pr,1,1,0⟩⟩]) mm hbf (by simpa[regsL,←HM.out] using ho) hov hmm;have hrs:=HRS.out;(try dsimp only at hrs);rw[←hrs];simpa using hr⟩
          refine AllReadyH.cons (i:=15) (by simp only[gets];try rfl) (fun K hK=> ?_) ?_
          · go_simp;refine hK.out _ _ ?_ (fun hHeld=> ?_)
            · (try dsimp only);(first | exact⟨j4,j5,j6⟩ | go_keep | ((repeat' apply And.intro)<;>go_keep))
            clear hK K
            (try simp only[Act.put,puts])
            refine wpAnyH_ready (rs:=[6]) (by kernel_rfl) (by simp) ?_;refine AllReadyH.cons (i:=6) (by simp only[gets];try rfl) (fun K hK=> ?_) AllReadyH.nil
            (refine step_reg rfl (.tmp 62) (.tmp 66) rfl (.slice (some ⟨wr.heap.size,0,none⟩) 0 0) 0 [] (by rfl) HOEL.out ⟨rb,0,none⟩ k rcap (regsL rs) (by rfl) HL1.out CEL.out HO1'.out p1.out.1 p1.out.2.1 ?_;intro v1 w1 hown1 hgrow1 hat1;obtain⟨HB1,HBr1,k4,k5,k6,k7,-,hz1,hz2,hz3⟩:=reg_app (nd:=nd) (pt:=pt) (pr:=pr) HBr.out Q7.out HGF.out hg HM0.out ⟨_,Nat.le_refl _,rfl⟩ (by go_grown) (by go_grown) hgrow1 hat1;have HO1:=qq hown1;have HLB:=qq (blk_grown ((Blk.fresh (wr.alloc (.cells #[] 199)) #[nd,pt,pr,.int .i64 1,.int .i64 1,.int .i64 0] 199 (wr.heap.size+1) (by simp)).drew) hgrow1 (fun e=>by simp[Value.ownBlock] at e));clear hown1 hgrow1 hat1)
            refine hK.out _ _ ?_ (fun hHeld=> ?_)
            · (try dsimp only);(first | exact⟨k4,k5,k6⟩ | exact⟨j4,j5,j6⟩ | go_keep | ((repeat' apply And.intro)<;>go_keep))
            clear hK K
            (try simp only[Act.put,puts])
            refine wpAnyH_ready (rs:=[16]) (by kernel_rfl) (by simp) ?_;refine AllReadyH.cons (i:=16) (by simp only[gets];try rfl) (fun K hK=> ?_) AllReadyH.nil
            (refine step_reg rfl (.tmp 67) (.tmp 76) rfl v1 (0+k) ([] ++regsL rs) (by rfl) HO1.out ⟨wr.heap.size+1,0,none⟩ 1 1 (regL ⟨nd,pt,⟨pr,1,1,0⟩⟩) (by rfl) rfl (lit_cells HLB.out) (regL_one _) p1.out.2.2.1 p1.out.2.2.2 ?_;intro v2 w2 hown2 hgrow2 hat2;obtain⟨HB3,HBr2,j8,j9,j10,k8,k9,-,-,-⟩:=reg_app (nd:=nd) (pt:=pt) (pr:=pr) HBr.out Q7.out HGF.out hg HB1.out.2 HBr1.out.2 (below_then HB1.out.1 (by go_grown)) (below_then HBr1.out.1 (by go_grown)) hgrow2 hat2;have HO2:=qq hown2;obtain⟨a2,cc2,rfl⟩:=row_slice hown2;clear hown2 hgrow2 hat2)
            refine hK.out _ _ ?_ (fun hHeld=> ?_)
            · (try dsimp only);(first | exact⟨j8,j9,j10⟩ | go_keep | ((repeat' apply And.intro)<;>go_keep))
            clear hK K
            (try simp only[Act.put,puts])
            refine takeU (d:=some 78) 17 rfl rfl hHeld (fun w' _=>by go_simp;(try rfl)) ?_;simp only[puts];refine takeU (d:=some 79) 18 rfl rfl hHeld (fun w' _=>by go_simp;(try rfl)) ?_;simp only[puts];refine wpAnyH_ready (rs:=[19]) (by kernel_rfl) (by simp) ?_;refine AllReadyH.cons (i:=19) (by simp only[gets];try rfl) (fun K hK=> ?_) AllReadyH.nil;go_simp;refine hK.out _ _ ?_ (fun hHeld=> ?_)
            · (try dsimp only);(first | exact⟨j8,j9,j10⟩ | go_keep | ((repeat' apply And.intro)<;>go_keep))
            clear hK K
            (try simp only[Act.put,puts])
            refine wpAnyH_done (by kernel_rfl) ?_ _;refine NoPanic.normal ?_;go_wp2_with fail;go_ret;have ho:=HO2.out;obtain⟨hbf,mm,hmm,hov⟩:=HB3.out;exact⟨rfl,by have hr:=HG.out _ _ (rs ++ [⟨nd,pt,⟨pr,1,1,0⟩⟩]) mm hbf (by simpa[regsL,←HM.out] using ho) hov hmm;have hrs:=HRS.out;(try dsimp only at hrs);rw[←hrs];simpa using hr⟩
          exact AllReadyH.nil
        refine AllReadyH.cons (i:=15) (by simp only[gets];try rfl) (fun K hK=> ?_) ?_
        · go_simp;refine hK.out _ _ ?_ (fun hHeld=> ?_)
          · (try dsimp only);(first | exact⟨j4,j5,j6⟩ | go_keep | ((repeat' apply And.intro)<;>go_keep))
          clear hK K
          (try simp only[Act.put,puts])
          refine wpAnyH_ready (rs:=[1]) (by kernel_rfl) (by simp) ?_;refine AllReadyH.cons (i:=1) (by simp only[gets];try rfl) (fun K hK=> ?_) AllReadyH.nil;go_simp;refine hK.out _ _ ?_ (fun hHeld=> ?_)
          · (try dsimp only);(first | exact⟨j4,j5,j6⟩ | go_keep | ((repeat' apply And.intro)<;>go_keep))
          clear hK K
          (try simp only[Act.put,puts])
          refine wpAnyH_ready (rs:=[6]) (by kernel_rfl) (by simp) ?_;refine AllReadyH.cons (i:=6) (by simp only[gets];try rfl) (fun K hK=> ?_) AllReadyH.nil
          (refine step_reg rfl (.tmp 62) (.tmp 66) rfl (.slice (some ⟨wr.heap.size+1,0,none⟩) 0 0) 0 [] (by rfl) HOLE.out ⟨rb,0,none⟩ k rcap (regsL rs) (by rfl) HL1.out CLE.out HO1'.out p1.out.1 p1.out.2.1 ?_;intro v1 w1 hown1 hgrow1 hat1;obtain⟨HB1,HBr1,k4,k5,k6,k7,-,hz1,hz2,hz3⟩:=reg_app (nd:=nd) (pt:=pt) (pr:=pr) HBr.out Q7.out HGF.out hg HM1.out ⟨_,Nat.le_succ _,rfl⟩ (by go_grown) (by go_grown) hgrow1 hat1;have HO1:=qq hown1;have HLB:=qq (blk_grown (((Blk.fresh wr #[nd,pt,pr,.int .i64 1,.int .i64 1,.int .i64 0] 199 wr.heap.size rfl).alloc (.cells #[] 199)).drew) hgrow1 (fun e=>by simp[Value.ownBlock] at e));clear hown1 hgrow1 hat1)
          refine hK.out _ _ ?_ (fun hHeld=> ?_)
          · (try dsimp only);(first | exact⟨k4,k5,k6⟩ | exact⟨j4,j5,j6⟩ | go_keep | ((repeat' apply And.intro)<;>go_keep))
          clear hK K
          (try simp only[Act.put,puts])
          refine wpAnyH_ready (rs:=[16]) (by kernel_rfl) (by simp) ?_;refine AllReadyH.cons (i:=16) (by simp only[gets];try rfl) (fun K hK=> ?_) AllReadyH.nil
          (refine step_reg rfl (.tmp 67) (.tmp 76) rfl v1 (0+k) ([] ++regsL rs) (by rfl) HO1.out ⟨wr.heap.size,0,none⟩ 1 1 (regL ⟨nd,pt,⟨pr,1,1,0⟩⟩) (by rfl) rfl (lit_cells HLB.out) (regL_one _) p1.out.2.2.1 p1.out.2.2.2 ?_;intro v2 w2 hown2 hgrow2 hat2;obtain⟨HB3,HBr2,j8,j9,j10,k8,k9,-,-,-⟩:=reg_app (nd:=nd) (pt:=pt) (pr:=pr) HBr.out Q7.out HGF.out hg HB1.out.2 HBr1.out.2 (below_then HB1.out.1 (by go_grown)) (below_then HBr1.out.1 (by go_grown)) hgrow2 hat2;have HO2:=qq hown2;obtain⟨a2,cc2,rfl⟩:=row_slice hown2;clear hown2 hgrow2 hat2)
          refine hK.out _ _ ?_ (fun hHeld=> ?_)
          · (try dsimp only);(first | exact⟨j8,j9,j10⟩ | go_keep | ((repeat' apply And.intro)<;>go_keep))
          clear hK K
          (try simp only[Act.put,puts])
          refine takeU (d:=some 78) 17 rfl rfl hHeld (fun w' _=>by go_simp;(try rfl)) ?_;simp only[puts];refine takeU (d:=some 79) 18 rfl rfl hHeld (fun w' _=>by go_simp;(try rfl)) ?_;simp only[puts];refine wpAnyH_ready (rs:=[19]) (by kernel_rfl) (by simp) ?_;refine AllReadyH.cons (i:=19) (by simp only[gets];try rfl) (fun K hK=> ?_) AllReadyH.nil;go_simp;refine hK.out _ _ ?_ (fun hHeld=> ?_)
          · (try dsimp only);(first | exact⟨j8,j9,j10⟩ | go_keep | ((repeat' apply And.intro)<;>go_keep))
          clear hK K
          (try simp only[Act.put,puts])
          refine wpAnyH_done (by kernel_rfl) ?_ _;refine NoPanic.normal ?_;go_wp2_with fail;go_ret;have ho:=HO2.out;obtain⟨hbf,mm,hmm,hov⟩:=HB3.out;exact⟨rfl,by have hr:=HG.out _ _ (rs ++ [⟨nd,pt,⟨pr,1,1,0⟩⟩]) mm hbf (by simpa[regsL,←HM.out] using ho) hov hmm;have hrs:=HRS.out;(try dsimp only at hrs);rw[←hrs];simpa using hr⟩
        exact AllReadyH.nil
      refine AllReadyH.cons (i:=15) (by simp only[gets];try rfl) (fun K hK=> ?_) ?_
      · go_simp;refine hK.out _ _ ?_ (fun hHeld=> ?_)
        · (try dsimp only);(first | exact⟨j4,j5,j6⟩ | go_keep | ((repeat' apply And.intro)<;>go_keep))
        clear hK K
        (try simp only[Act.put,puts])
        refine wpAnyH_ready (rs:=[1,5]) (by kernel_rfl) (by simp) ?_;refine AllReadyH.cons (i:=1) (by simp only[gets];try rfl) (fun K hK=> ?_) ?_
        · go_simp;refine hK.out _ _ ?_ (fun hHeld=> ?_)
          · (try dsimp only);(first | exact⟨j4,j5,j6⟩ | go_keep | ((repeat' apply And.intro)<;>go_keep))
          clear hK K
          (try simp only[Act.put,puts])
          refine wpAnyH_ready (rs:=[5]) (by kernel_rfl) (by simp) ?_;refine AllReadyH.cons (i:=5) (by simp only[gets];try rfl) (fun K hK=> ?_) AllReadyH.nil;go_simp;refine hK.out _ _ ?_ (fun hHeld=> ?_)
          · (try dsimp only);(first | exact⟨j4,j5,j6⟩ | go_keep | ((repeat' apply And.intro)<;>go_keep))
          clear hK K
          (try simp only[Act.put,puts])
          refine wpAnyH_ready (rs:=[6]) (by kernel_rfl) (by simp) ?_;refine AllReadyH.cons (i:=6) (by simp only[gets];try rfl) (fun K hK=> ?_) AllReadyH.nil
          (refine step_reg rfl (.tmp 62) (.tmp 66) rfl (.slice (some ⟨wr.heap.size+1,0,none⟩) 0 0) 0 [] (by rfl) HOLE.out ⟨rb,0,none⟩ k rcap (regsL rs) (by rfl) HL1.out CLE.out HO1'.out p1.out.1 p1.out.2.1 ?_;intro v1 w1 hown1 hgrow1 hat1;obtain⟨HB1,HBr1,k4,k5,k6,k7,-,hz1,hz2,hz3⟩:=reg_app (nd:=nd) (pt:=pt) (pr:=pr) HBr.out Q7.out HGF.out hg HM1.out ⟨_,Nat.le_succ _,rfl⟩ (by go_grown) (by go_grown) hgrow1 hat1;have HO1:=qq hown1;have HLB:=qq (blk_grown (((Blk.fresh wr #[nd,pt,pr,.int .i64 1,.int .i64 1,.int .i64 0] 199 wr.heap.size rfl).alloc (.cells #[] 199)).drew) hgrow1 (fun e=>by simp[Value.ownBlock] at e));clear hown1 hgrow1 hat1)
          refine hK.out _ _ ?_ (fun hHeld=> ?_)
          · (try dsimp only);(first | exact⟨k4,k5,k6⟩ | exact⟨j4,j5,j6⟩ | go_keep | ((repeat' apply And.intro)<;>go_keep))
          clear hK K
          (try simp only[Act.put,puts])
          refine wpAnyH_ready (rs:=[16]) (by kernel_rfl) (by simp) ?_;refine AllReadyH.cons (i:=16) (by simp only[gets];try rfl) (fun K hK=> ?_) AllReadyH.nil
          (refine step_reg rfl (.tmp 67) (.tmp 76) rfl v1 (0+k) ([] ++regsL rs) (by rfl) HO1.out ⟨wr.heap.size,0,none⟩ 1 1 (regL ⟨nd,pt,⟨pr,1,1,0⟩⟩) (by rfl) rfl (lit_cells HLB.out) (regL_one _) p1.out.2.2.1 p1.out.2.2.2 ?_;intro v2 w2 hown2 hgrow2 hat2;obtain⟨HB3,HBr2,j8,j9,j10,k8,k9,-,-,-⟩:=reg_app (nd:=nd) (pt:=pt) (pr:=pr) HBr.out Q7.out HGF.out hg HB1.out.2 HBr1.out.2 (below_then HB1.out.1 (by go_grown)) (below_then HBr1.out.1 (by go_grown)) hgrow2 hat2;have HO2:=qq hown2;obtain⟨a2,cc2,rfl⟩:=row_slice hown2;clear hown2 hgrow2 hat2)
          refine hK.out _ _ ?_ (fun hHeld=> ?_)
          · (try dsimp only);(first | exact⟨j8,j9,j10⟩ | go_keep | ((repeat' apply And.intro)<;>go_keep))
          clear hK K
          (try simp only[Act.put,puts])
          refine takeU (d:=some 78) 17 rfl rfl hHeld (fun w' _=>by go_simp;(try rfl)) ?_;simp only[puts];refine takeU (d:=some 79) 18 rfl rfl hHeld (fun w' _=>by go_simp;(try rfl)) ?_;simp only[puts];refine wpAnyH_ready (rs:=[19]) (by kernel_rfl) (by simp) ?_;refine AllReadyH.cons (i:=19) (by simp only[gets];try rfl) (fun K hK=> ?_) AllReadyH.nil;go_simp;refine hK.out _ _ ?_ (fun hHeld=> ?_)
          · (try dsimp only);(first | exact⟨j8,j9,j10⟩ | go_keep | ((repeat' apply And.intro)<;>go_keep))
          clear hK K
          (try simp only[Act.put,puts])
          refine wpAnyH_done (by kernel_rfl) ?_ _;refine NoPanic.normal ?_;go_wp2_with fail;go_ret;have ho:=HO2.out;obtain⟨hbf,mm,hmm,hov⟩:=HB3.out;exact⟨rfl,by have hr:=HG.out _ _ (rs ++ [⟨nd,pt,⟨pr,1,1,0⟩⟩]) mm hbf (by simpa[regsL,←HM.out] using ho) hov hmm;have hrs:=HRS.out;(try dsimp only at hrs);rw[←hrs];simpa using hr⟩
        refine AllReadyH.cons (i:=5) (by simp only[gets];try rfl) (fun K hK=> ?_) ?_
        · go_simp;refine hK.out _ _ ?_ (fun hHeld=> ?_)
          · (try dsimp only);(first | exact⟨j4,j5,j6⟩ | go_keep | ((repeat' apply And.intro)<;>go_keep))
          clear hK K
          (try simp only[Act.put,puts])
          refine wpAnyH_ready (rs:=[1]) (by kernel_rfl) (by simp) ?_;refine AllReadyH.cons (i:=1) (by simp only[gets];try rfl) (fun K hK=> ?_) AllReadyH.nil;go_simp;refine hK.out _ _ ?_ (fun hHeld=> ?_)
          · (try dsimp only);(first | exact⟨j4,j5,j6⟩ | go_keep | ((repeat' apply And.intro)<;>go_keep))
          clear hK K
          (try simp only[Act.put,puts])
          refine wpAnyH_ready (rs:=[6]) (by kernel_rfl) (by simp) ?_;refine AllReadyH.cons (i:=6) (by simp only[gets];try rfl) (fun K hK=> ?_) AllReadyH.nil
          (refine step_reg rfl (.tmp 62) (.tmp 66) rfl (.slice (some ⟨wr.heap.size+1,0,none⟩) 0 0) 0 [] (by rfl) HOLE.out ⟨rb,0,none⟩ k rcap (regsL rs) (by rfl) HL1.out CLE.out HO1'.out p1.out.1 p1.out.2.1 ?_;intro v1 w1 hown1 hgrow1 hat1;obtain⟨HB1,HBr1,k4,k5,k6,k7,-,hz1,hz2,hz3⟩:=reg_app (nd:=nd) (pt:=pt) (pr:=pr) HBr.out Q7.out HGF.out hg HM1.out ⟨_,Nat.le_succ _,rfl⟩ (by go_grown) (by go_grown) hgrow1 hat1;have HO1:=qq hown1;have HLB:=qq (blk_grown (((Blk.fresh wr #[nd,pt,pr,.int .i64 1,.int .i64 1,.int .i64 0] 199 wr.heap.size rfl).alloc (.cells #[] 199)).drew) hgrow1 (fun e=>by simp[Value.ownBlock] at e));clear hown1 hgrow1 hat1)
          refine hK.out _ _ ?_ (fun hHeld=> ?_)
          · (try dsimp only);(first | exact⟨k4,k5,k6⟩ | exact⟨j4,j5,j6⟩ | go_keep | ((repeat' apply And.intro)<;>go_keep))
          clear hK K
          (try simp only[Act.put,puts])
          refine wpAnyH_ready (rs:=[16]) (by kernel_rfl) (by simp) ?_;refine AllReadyH.cons (i:=16) (by simp only[gets];try rfl) (fun K hK=> ?_) AllReadyH.nil
          (refine step_reg rfl (.tmp 67) (.tmp 76) rfl v1 (0+k) ([] ++regsL rs) (by rfl) HO1.out ⟨wr.heap.size,0,none⟩ 1 1 (regL ⟨nd,pt,⟨pr,1,1,0⟩⟩) (by rfl) rfl (lit_cells HLB.out) (regL_one _) p1.out.2.2.1 p1.out.2.2.2 ?_;intro v2 w2 hown2 hgrow2 hat2;obtain⟨HB3,HBr2,j8,j9,j10,k8,k9,-,-,-⟩:=reg_app (nd:=nd) (pt:=pt) (pr:=pr) HBr.out Q7.out HGF.out hg HB1.out.2 HBr1.out.2 (below_then HB1.out.1 (by go_grown)) (below_then HBr1.out.1 (by go_grown)) hgrow2 hat2;have HO2:=qq hown2;obtain⟨a2,cc2,rfl⟩:=row_slice hown2;clear hown2 hgrow2 hat2)
          refine hK.out _ _ ?_ (fun hHeld=> ?_)
          · (try dsimp only);(first | exact⟨j8,j9,j10⟩ | go_keep | ((repeat' apply And.intro)<;>go_keep))
          clear hK K
          (try simp only[Act.put,puts])
          refine takeU (d:=some 78) 17 rfl rfl hHeld (fun w' _=>by go_simp;(try rfl)) ?_;simp only[puts];refine takeU (d:=some 79) 18 rfl rfl hHeld (fun w' _=>by go_simp;(try rfl)) ?_;simp only[puts];refine wpAnyH_ready (rs:=[19]) (by kernel_rfl) (by simp) ?_;refine AllReadyH.cons (i:=19) (by simp only[gets];try rfl) (fun K hK=> ?_) AllReadyH.nil;go_simp;refine hK.out _ _ ?_ (fun hHeld=> ?_)
          · (try dsimp only);(first | exact⟨j8,j9,j10⟩ | go_keep | ((repeat' apply And.intro)<;>go_keep))
          clear hK K
          (try simp only[Act.put,puts])
          refine wpAnyH_done (by kernel_rfl) ?_ _;refine NoPanic.normal ?_;go_wp2_with fail;go_ret;have ho:=HO2.out;obtain⟨hbf,mm,hmm,hov⟩:=HB3.out;exact⟨rfl,by have hr:=HG.out _ _ (rs ++ [⟨nd,pt,⟨pr,1,1,0⟩⟩]) mm hbf (by simpa[regsL,←HM.out] using ho) hov hmm;have hrs:=HRS.out;(try dsimp only at hrs);rw[←hrs];simpa using hr⟩
        exact AllReadyH.nil
      exact AllReadyH.nil
end Go.Proofs.YtlkajejbfojkeaaGreatDoor
