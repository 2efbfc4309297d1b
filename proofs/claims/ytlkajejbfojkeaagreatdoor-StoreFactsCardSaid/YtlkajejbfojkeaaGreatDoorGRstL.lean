/- RstL -/
import Derived.Test.YtlkajejbfojkeaaGreatDoorGRstK
set_option linter.unusedSimpArgs false
set_option linter.unusedVariables false
set_option maxRecDepth 100000
set_option maxHeartbeats 16000000
namespace Go.Proofs.YtlkajejbfojkeaaGreatDoor
open Go.RowKit
attribute [local go_sem] store_float
theorem infoRReg:(Tryz.prog.info? 199).map (fun i=>(i.zero,i.size,i.bytes))=some (some (.agg #[.int .i64 0,.int .i64 0,.int .i64 0,.int .i64 0,.int .i64 0,.int .i64 0]),6,48):=by kernel_rfl
theorem ract2_no1 (R : RLoc) (S : Sto) (f : SFact) (i : Nat) (a : SAct) (v : Value) (w : World) (h : RStoreAt R S w) (hl : S.acts.length ≤ 8) (hk : f.k = 2) (hv : R.rv[i]? = some v) (ha : S.acts[i]? = some a) (h1 : f.rg ≠ (a.regs.length : Int)) :
    Calls Tryz.prog 93 #[.pointer (some ⟨R.sb,0,none⟩),.int .i64 (i:Int),factV f] w (fun e w'=>e=.returned (.bool false)∧RGoes R S w w'):=by
 obtain⟨aa,acap,hav,han,har⟩:=act_row h.len h.acts;have hil:i<S.acts.length:=(List.getElem?_eq_some_iff.1 ha).1;obtain⟨g,rfl,hg,hgf,hcell⟩:=har (by omega);obtain⟨a0,a1,a2,a3,a4,a5,a6,a7⟩:=hcell i a v ha hv;have c2:w.cell? ⟨R.sb,2,none⟩=some (.slice (some ⟨g,0,none⟩) S.acts.length acap):=by rw[←hav];exact h.blk.cell 2
 have hsb:=h.blk.lt;have HG:=qq (fun w2 (hb:Below w.heap.size w w2)=>RGoes.same h hb);have hrv:=h.regs i v a hv ha;obtain⟨ra,rcap,hrvs,hrn,hrr⟩:=reg_row hrv;subst hrvs;obtain⟨m,hm⟩:∃m,m=a.regs.length:=⟨_,rfl⟩
 rw[←hm] at a7 h1;obtain⟨n,hn⟩:∃n,n=S.acts.length:=⟨_,rfl⟩
 rw[←hn] at c2 hil hl;have hi0:(0:Int)≤(i:Int):=by omega
 have hi1:(i:Int)<(n:Int):=by omega
 obtain⟨xan,xaq,xoc,xdp,xex,xpa,xde,xrs⟩:=a;obtain⟨k,an,aq,rg,nd,pt,pr,oc,dp,pa,st,hw,de,ex⟩:=f;dsimp only at*;subst hk;dsimp only[factV,factC] at*;have d1:(rg !=(m:Int))=true:=by simpa using h1
 clear h1;clear h hv ha hav han har hcell hn a0 a1 a2 a3 a4 a5 hrv hrn hrr hm;go_enter Tryz.func93,Tryz.ntmps93;go_wp2_with fail;go_region
 all_goals go_wp2_with fail
 all_goals go_ret
 all_goals exact⟨rfl,HG.out _ (by go_grown)⟩
theorem ract2_no2 (R : RLoc) (S : Sto) (f : SFact) (i : Nat) (a : SAct) (v : Value) (w : World) (h : RStoreAt R S w) (hl : S.acts.length ≤ 8) (hk : f.k = 2) (hv : R.rv[i]? = some v) (ha : S.acts[i]? = some a) (h1 : f.rg = (a.regs.length : Int)) (h2 : a.de ≠ 0) :
    Calls Tryz.prog 93 #[.pointer (some ⟨R.sb,0,none⟩),.int .i64 (i:Int),factV f] w (fun e w'=>e=.returned (.bool false)∧RGoes R S w w'):=by
 obtain⟨aa,acap,hav,han,har⟩:=act_row h.len h.acts;have hil:i<S.acts.length:=(List.getElem?_eq_some_iff.1 ha).1;obtain⟨g,rfl,hg,hgf,hcell⟩:=har (by omega);obtain⟨a0,a1,a2,a3,a4,a5,a6,a7⟩:=hcell i a v ha hv;have c2:w.cell? ⟨R.sb,2,none⟩=some (.slice (some ⟨g,0,none⟩) S.acts.length acap):=by rw[←hav];exact h.blk.cell 2
 have hsb:=h.blk.lt;have HG:=qq (fun w2 (hb:Below w.heap.size w w2)=>RGoes.same h hb);have hrv:=h.regs i v a hv ha;obtain⟨ra,rcap,hrvs,hrn,hrr⟩:=reg_row hrv;subst hrvs;obtain⟨m,hm⟩:∃m,m=a.regs.length:=⟨_,rfl⟩
 rw[←hm] at a7 h1;obtain⟨n,hn⟩:∃n,n=S.acts.length:=⟨_,rfl⟩
 rw[←hn] at c2 hil hl;have hi0:(0:Int)≤(i:Int):=by omega
 have hi1:(i:Int)<(n:Int):=by omega
 obtain⟨xan,xaq,xoc,xdp,xex,xpa,xde,xrs⟩:=a;obtain⟨k,an,aq,rg,nd,pt,pr,oc,dp,pa,st,hw,de,ex⟩:=f;dsimp only at*;subst hk;dsimp only[factV,factC] at*;subst h1;have d1:((m:Int) !=(m:Int))=false:=by simp
 have d2:(xde !=0)=true:=by simpa using h2
 clear h2;clear h hv ha hav han har hcell hn a0 a1 a2 a3 a4 a5 hrv hrn hrr hm;go_enter Tryz.func93,Tryz.ntmps93;go_wp2_with fail;go_region
 all_goals go_wp2_with fail
 all_goals go_ret
 all_goals exact⟨rfl,HG.out _ (by go_grown)⟩
theorem ract2_no3 (R : RLoc) (S : Sto) (f : SFact) (i : Nat) (a : SAct) (v : Value) (w : World) (h : RStoreAt R S w) (hl : S.acts.length ≤ 8) (hk : f.k = 2) (hv : R.rv[i]? = some v) (ha : S.acts[i]? = some a) (hrl : a.regs.length ≤ 6) (h1 : f.rg = (a.regs.length : Int)) (h2 : a.de = 0) (h3 : (a.regs.any fun r => decide (r.n = f.nd ∧ r.p = f.pt)) = true) :
    Calls Tryz.prog 93 #[.pointer (some ⟨R.sb,0,none⟩),.int .i64 (i:Int),factV f] w (fun e w'=>e=.returned (.bool false)∧RGoes R S w w'):=by
 obtain⟨aa,acap,hav,han,har⟩:=act_row h.len h.acts;have hil:i<S.acts.length:=(List.getElem?_eq_some_iff.1 ha).1;obtain⟨g,rfl,hg,hgf,hcell⟩:=har (by omega);obtain⟨a0,a1,a2,a3,a4,a5,a6,a7⟩:=hcell i a v ha hv;have c2:w.cell? ⟨R.sb,2,none⟩=some (.slice (some ⟨g,0,none⟩) S.acts.length acap):=by rw[←hav];exact h.blk.cell 2
 have hsb:=h.blk.lt;have hrv:=h.regs i v a hv ha;obtain⟨ra,rcap,hrvs,hrn,hrr⟩:=reg_row hrv;have HG:=qq (fun w2 (hb:Below w.heap.size w w2)=>RGoes.same h hb);subst hrvs;obtain⟨rs,hrs⟩:∃rs,rs=a.regs:=⟨_,rfl⟩
 rw[←hrs] at hrr a7 hrl h1 h3;obtain⟨m,hm⟩:∃m,m=rs.length:=⟨_,rfl⟩
 rw[←hm] at hrr a7 hrl h1;have HRR:=qq hrr;have HM:=qq hm;have H3:=qq h3;have HRS:=qq hrs;obtain⟨n,hn⟩:∃n,n=S.acts.length:=⟨_,rfl⟩
 rw[←hn] at c2 hil hl;have hi0:(0:Int)≤(i:Int):=by omega
 have hi1:(i:Int)<(n:Int):=by omega
 obtain⟨xan,xaq,xoc,xdp,xex,xpa,xde,xrs⟩:=a;obtain⟨k,an,aq,rg,nd,pt,pr,oc,dp,pa,st,hw,de,ex⟩:=f;dsimp only at*;subst hk h1 h2;dsimp only[factV,factC] at*;have d1:((m:Int) !=(m:Int))=false:=by simp
 have HBX:=qq ((Blk.fresh w #[.int .i64 2,an,aq,(m:Int),nd,pt,pr,oc,dp,pa,st,hw,de,.float .f64 ex] 42 _ rfl).drew);clear h hv ha hav han har hcell hn a0 a1 a2 a3 a4 a5 hrv hrn hrr hm h3 hrs;go_enter Tryz.func93,Tryz.ntmps93;go_wp2_with fail;go_region;go_wp2_with fail;clear d1
 go_loopw [44] (fun x wr=>∃k:Nat,k≤m∧x=.int .i64 (k:Nat)∧Hid (∀j:Nat,j<k→((rs[j]?).map fun r=>decide (r.n=nd∧r.p=pt))=some false)∧Hid (Blk wr w.heap.size #[.int .i64 2,an,aq,(m:Int),nd,pt,pr,oc,dp,pa,st,hw,de,.float .f64 ex])∧Below w.heap.size w wr) (fun x _=>m - (intOf x).toNat)
 case atStart=>exact⟨0,by omega,by first | rfl | go_num,qq (fun j h=>absurd h (by omega)),HBX,by go_grown⟩
 case round=>
  obtain⟨k,hkm,rfl,HBE,HBr,hB⟩:=hrel;by_cases hlt:k<m
  · have hks:k<rs.length:=by rw[←HM.out];exact hlt
    obtain⟨rb,rfl,hrb,hrf,hrc⟩:=HRR.out (by omega);obtain⟨x,hx⟩:∃x,rs[k]? =some x:=⟨_,List.getElem?_eq_getElem hks⟩
    obtain⟨p0,p1,p2,p3,p4,p5⟩:=(hrc k x hx).below hB hrb;have HX:=qq hx;have hki:(k:Int)<(m:Int):=by omega
    have hk0:(0:Int)≤(k:Int):=by omega
    have hzw:w.heap.size<wr.heap.size:=HBr.out.lt;have hrw:rb<wr.heap.size:=by have:=hB.size;omega
    have hBx:Below w.heap.size w (wr.alloc (.cells #[x.n,x.p,x.seat.p,x.seat.d,x.seat.s,x.seat.h] 199)):=hB.alloc hB.size _;have HB2:=qq (HBr.out.alloc (.cells #[x.n,x.p,x.seat.p,x.seat.d,x.seat.s,x.seat.h] 199));obtain⟨q,qf⟩:=HBr.out.out;obtain⟨t1,ht1⟩:∃t,t=(x.n==nd):=⟨_,rfl⟩
    obtain⟨t2,ht2⟩:∃t,t=(x.p==pt):=⟨_,rfl⟩
    have e1:(x.n==nd)=t1:=ht1.symm;have e2:(x.p==pt)=t2:=ht2.symm;have HT:=qq (show decide (x.n=nd∧x.p=pt)=(t1 && t2) by rw[ht1,ht2];rw[Bool.eq_iff_iff];simp);clear ht1 ht2 hrc hrf hx;obtain⟨xn,xp,⟨xsp,xsd,xss,xsh⟩⟩:=x;dsimp only at p0 p1 p2 p3 p4 p5 e1 e2 hBx HB2
    cases t1<;>cases t2
    case true.true=>
     go_wp2_with fail;go_ret;exact⟨rfl,HG.out _ hBx⟩
    all_goals
     go_wp2_with fail;go_roundw
     case rel => exact ⟨k + 1, by omega, by go_num, qq (fun j hj => by
         rcases Nat.lt_or_eq_of_le (Nat.le_of_lt_succ hj) with h1 | h1
         · exact HBE.out j h1
         · subst h1;rw[HX.out];simp only[Option.map_some];rw[HT.out];rfl),HB2,hBx⟩
     case measure=>(simp[intOf];omega)
  · obtain rfl:k=m:=by omega
    exfalso;obtain⟨r,hr1,hr2⟩:=List.any_eq_true.1 H3.out;obtain⟨j,hj,rfl⟩:=List.getElem_of_mem hr1;have:=HBE.out j (by rw[HM.out];exact hj);rw[List.getElem?_eq_getElem hj] at this;simp only[Option.map_some] at this;injection this with this
    rw[this] at hr2
    cases hr2
end Go.Proofs.YtlkajejbfojkeaaGreatDoor
