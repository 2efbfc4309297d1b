/- RstK -/
import Derived.Test.YtlkajejbfojkeaaGreatDoorGRstOToRstW
import Derived.Deep.RegionWith
import Derived.Deep.RegionLaw
set_option linter.unusedSimpArgs false
set_option linter.unusedVariables false
set_option maxRecDepth 100000
set_option maxHeartbeats 16000000
namespace Go.Proofs.YtlkajejbfojkeaaGreatDoor
open Go.RowKit
attribute [local go_sem] store_float
theorem app_new {w W w1:World} {v v1:Value} (hb:Below w.heap.size w W) (hg:W.grownBy w1 v.ownBlock) (hat:v1.ownBlock=v.ownBlock∨v1.ownBlock=some W.heap.size) (hv:∃m,w.heap.size≤m∧v.ownBlock=some m):Below w.heap.size w w1∧∃m,w.heap.size≤m∧v1.ownBlock=some m:=by
 obtain⟨m,hm,hv⟩:=hv;refine⟨hb.grown hg hb.size (fun k hk=>by rw[hv] at hk;injection hk with hk;omega),?_⟩;rcases hat with e | e
 · exact⟨m,hm,e.trans hv⟩
 · exact⟨_,hb.size,e⟩
theorem src_new {w w1:World} {A:Addr} {b:Nat} {news:List Value} (h:∀t u,news[t]? =some u→w.cell? (A.add t)=some u) (hb:Below w.heap.size w w1) (hA:∀t,(A.add t).block=b) (hlt:b<w.heap.size):∀t u,news[t]? =some u→w1.cell? (A.add t)=some u:=
 fun t u hu=>(hb.cell (p:=A.add t) (by rw[hA t];exact hlt)).trans (h t u hu)
theorem infoRAct:(Tryz.prog.info? 116).map (fun i=>(i.zero,i.size,i.bytes))=some (some (.agg #[.int .i64 0,.int .i64 0,.int .i64 0,.int .i64 0,.float .f64 0,.int .i64 0,.int .i64 0,.slice none 0 0]),8,80):=by kernel_rfl
theorem actL_one {x:SAct×Value} (h:∃a m c,x.2=.slice a m c):∀u∈actL x.1 x.2,u.oneCell'=true:=by
 obtain⟨a,m,c,h⟩:=h;intro u hu;simp only[actL,List.mem_cons,List.not_mem_nil,or_false] at hu;rcases hu with rfl | rfl | rfl | rfl | rfl | rfl | rfl | rfl
 all_goals first | rfl | (rw[h];rfl)
theorem acts_one {al:List SAct} {rv:List Value} (h:∀(i:Nat) (v:Value),rv[i]? =some v→∃a m c,v=.slice a m c):∀u∈actsL al rv,u.oneCell'=true:=by
 intro u hu;unfold actsL at hu;obtain⟨x,hx,hu⟩:=List.mem_flatMap.1 hu;refine actL_one ?_ u hu;obtain⟨i,hi,rfl⟩:=List.getElem_of_mem hx;rw[List.length_zip] at hi;simp only[List.getElem_zip];exact h i _ (List.getElem?_eq_getElem (by omega))
theorem acts_take (al:List SAct) (rv:List Value) (i:Nat):(actsL al rv).take (i*8)=actsL (al.take i) (rv.take i):=by
 unfold actsL;rw[flat_take _ 8 actL_len,List.zip_eq_zipWith,List.take_zipWith,←List.zip_eq_zipWith]
theorem acts_drop (al:List SAct) (rv:List Value) (i:Nat):(actsL al rv).drop (i*8)=actsL (al.drop i) (rv.drop i):=by
 unfold actsL;rw[flat_drop _ 8 actL_len,List.zip_eq_zipWith,List.drop_zipWith,←List.zip_eq_zipWith]
theorem acts_erase (al:List SAct) (rv:List Value) (i:Nat) (hl:rv.length=al.length):actsL (al.eraseIdx i) (rv.eraseIdx i)=actsL (al.take i) (rv.take i) ++actsL (al.drop (i+1)) (rv.drop (i+1)):=by
 unfold actsL;rw[List.eraseIdx_eq_take_drop_succ,List.eraseIdx_eq_take_drop_succ,List.zip_append (by rw[List.length_take,List.length_take,hl]),List.flatMap_append]
theorem acts_len {al:List SAct} {rv:List Value} (hl:rv.length=al.length):(actsL al rv).length=al.length*8:=by
 unfold actsL;rw[flat_length _ 8 actL_len,List.length_zip,hl,Nat.min_self]
theorem ract5_no (R : RLoc) (S : Sto) (f : SFact) (i : Nat) (a : SAct) (v : Value) (w : World) (h : RStoreAt R S w) (hl : S.acts.length ≤ 8) (hk : f.k = 5) (hv : R.rv[i]? = some v) (ha : S.acts[i]? = some a) (hrl : a.regs.length ≤ 6) (h1 : (a.regs.any fun r => decide (r.seat.s ≠ 14)) = true) :
    Calls Tryz.prog 93 #[.pointer (some ⟨R.sb,0,none⟩),.int .i64 (i:Int),factV f] w (fun e w'=>e=.returned (.bool false)∧RGoes R S w w'):=by
 obtain⟨aa,acap,hav,han,har⟩:=act_row h.len h.acts;have hil:i<S.acts.length:=(List.getElem?_eq_some_iff.1 ha).1;obtain⟨g,rfl,hg,hgf,hcell⟩:=har (by omega);obtain⟨a0,a1,a2,a3,a4,a5,a6,a7⟩:=hcell i a v ha hv;have c2:w.cell? ⟨R.sb,2,none⟩=some (.slice (some ⟨g,0,none⟩) S.acts.length acap):=by rw[←hav];exact h.blk.cell 2
 have hsb:=h.blk.lt;have hrv:=h.regs i v a hv ha;obtain⟨ra,rcap,hrvs,hrn,hrr⟩:=reg_row hrv;have HG:=qq (fun w2 (hb:Below w.heap.size w w2)=>RGoes.same h hb);subst hrvs;obtain⟨rs,hrs⟩:∃rs,rs=a.regs:=⟨_,rfl⟩
 rw[←hrs] at hrr a7 hrl h1;obtain⟨m,hm⟩:∃m,m=rs.length:=⟨_,rfl⟩
 rw[←hm] at hrr a7 hrl;have HRR:=qq hrr;have HM:=qq hm;have H1:=qq h1;obtain⟨n,hn⟩:∃n,n=S.acts.length:=⟨_,rfl⟩
 rw[←hn] at c2 hil hl;have hi0:(0:Int)≤(i:Int):=by omega
 have hi1:(i:Int)<(n:Int):=by omega
 obtain⟨xan,xaq,xoc,xdp,xex,xpa,xde,xrs⟩:=a;obtain⟨k,an,aq,rg,nd,pt,pr,oc,dp,pa,st,hw,de,ex⟩:=f;dsimp only at*;subst hk;dsimp only[factV,factC] at*;clear h hv ha hav han har hcell hn a0 a1 a2 a3 a4 a5 a6 hrv hrn hrr hm h1 hrs;go_enter Tryz.func93,Tryz.ntmps93;go_wp2_with fail
 go_loopw [142] (fun x wr=>∃k:Nat,k≤m∧x=.int .i64 (k:Nat)∧Hid (∀j:Nat,j<k→((rs[j]?).map fun r=>decide (r.seat.s≠14))=some false)∧Below w.heap.size w wr) (fun x _=>m - (intOf x).toNat)
 case atStart=>exact⟨0,by omega,by first | rfl | go_num,qq (fun j h=>absurd h (by omega)),by go_grown⟩
 case round=>
  obtain⟨k,hkm,rfl,HBE,hB⟩:=hrel;by_cases hlt:k<m
  · have hks:k<rs.length:=by rw[←HM.out];exact hlt
    obtain⟨rb,rfl,hrb,hrf,hrc⟩:=HRR.out (by omega);obtain⟨x,hx⟩:∃x,rs[k]? =some x:=⟨_,List.getElem?_eq_getElem hks⟩
    obtain⟨p0,p1,p2,p3,p4,p5⟩:=(hrc k x hx).below hB hrb;have HX:=qq hx;have hki:(k:Int)<(m:Int):=by omega
    have hk0:(0:Int)≤(k:Int):=by omega
    obtain⟨t,ht⟩:∃t,t=decide (x.seat.s≠14):=⟨_,rfl⟩
    have hse:(x.seat.s !=14)=t:=by rw[ht];by_cases h:x.seat.s=14<;>simp[h]
    have HT:=qq ht;have hBx:Below w.heap.size w (wr.alloc (.cells #[x.n,x.p,x.seat.p,x.seat.d,x.seat.s,x.seat.h] 199)):=hB.alloc hB.size _;clear ht hrc hrf hx;obtain⟨xn,xp,⟨xsp,xsd,xss,xsh⟩⟩:=x;dsimp only at p0 p1 p2 p3 p4 p5 hse hBx
    cases t with
    | true=>
     go_wp2_with fail;go_ret;exact⟨rfl,HG.out _ hBx⟩
    | false=>
     go_wp2_with fail;go_roundw
     case rel => exact ⟨k + 1, by omega, by go_num, qq (fun j hj => by
         rcases Nat.lt_or_eq_of_le (Nat.le_of_lt_succ hj) with h1 | h1
         · exact HBE.out j h1
         · subst h1;rw[HX.out];simp only[Option.map_some];rw[←HT.out]),hBx⟩
     case measure=>(simp[intOf];omega)
  · obtain rfl:k=m:=by omega
    exfalso;obtain⟨r,hr1,hr2⟩:=List.any_eq_true.1 H1.out;obtain⟨j,hj,rfl⟩:=List.getElem_of_mem hr1;have:=HBE.out j (by rw[HM.out];exact hj);rw[List.getElem?_eq_getElem hj] at this;simp only[Option.map_some] at this;injection this with this
    rw[this] at hr2
    cases hr2
theorem ract5_yes (R : RLoc) (S : Sto) (f : SFact) (i : Nat) (a : SAct) (v : Value) (w : World) (h : RStoreAt R S w) (hl : S.acts.length ≤ 8) (hk : f.k = 5) (hv : R.rv[i]? = some v) (ha : S.acts[i]? = some a) (hrl : a.regs.length ≤ 6) (h1 : (a.regs.any fun r => decide (r.seat.s ≠ 14)) = false) :
    Calls Tryz.prog 93 #[.pointer (some ⟨R.sb,0,none⟩),.int .i64 (i:Int),factV f] w (fun e w'=>e=.returned (.bool true)∧RGoes R {S with acts:=S.acts.take i ++S.acts.drop (i+1)} w w'):=by
 obtain⟨aa,acap,hav,han,har⟩:=act_row h.len h.acts;have hil:i<S.acts.length:=(List.getElem?_eq_some_iff.1 ha).1;obtain⟨g,rfl,hg,hgf,hcell⟩:=har (by omega);obtain⟨a0,a1,a2,a3,a4,a5,a6,a7⟩:=hcell i a v ha hv;have c2:w.cell? ⟨R.sb,2,none⟩=some (.slice (some ⟨g,0,none⟩) S.acts.length acap):=by rw[←hav];exact h.blk.cell 2
 have hsb:=h.blk.lt;have hrv:=h.regs i v a hv ha;obtain⟨ra,rcap,hrvs,hrn,hrr⟩:=reg_row hrv;have HG:=qq (fun w2 v2 m (hb:Below w.heap.size w w2) (ho:w2.ownsRow 0 116 8 v2 (S.acts.length - 1) (actsL (S.acts.eraseIdx i) (R.rv.eraseIdx i))) (hm:v2.ownBlock=some m) (hml:w.heap.size≤m)=>rdel_goes h hb hil ho hm hml);have hlen:=h.len;have hrow:=h.acts;rw[hav] at hrow
 have hone:∀(i:Nat) (v:Value),R.rv[i]? =some v→∃a m c,v=.slice a m c:=fun i v hv=>row_slice3 (h.regs i v _ hv (List.getElem?_eq_getElem (by rw[←h.len];exact(List.getElem?_eq_some_iff.1 hv).1)))
 obtain⟨gg,gcap,hgv,hgc,hgm,_,hgcell,_⟩:=row_form hrow (by omega);obtain⟨rfl,rfl⟩:g=gg∧acap=gcap:=by simpa using hgv
 have hcells:∀t u,(actsL S.acts R.rv)[t]? =some u→w.cell? ⟨g,t,none⟩=some u:=hgcell;obtain⟨news1,hn1⟩:∃news,news=actsL (S.acts.take i) (R.rv.take i):=⟨_,rfl⟩
 obtain⟨news2,hn2⟩:∃news,news=actsL (S.acts.drop (i+1)) (R.rv.drop (i+1)):=⟨_,rfl⟩
 have HFIN:=qq (show actsL (S.acts.eraseIdx i) (R.rv.eraseIdx i)=[] ++news1 ++news2 by rw[hn1,hn2,List.nil_append,acts_erase _ _ _ hlen]);have L1:=qq (show news1.length=i*8 by rw[hn1,acts_len (by rw[List.length_take,List.length_take,hlen]),List.length_take,Nat.min_eq_left (Nat.le_of_lt hil)])
 have L2:=qq (show news2.length=(S.acts.length - (i+1))*8 by rw[hn2,acts_len (by rw[List.length_drop,List.length_drop,hlen]),List.length_drop]);have O1:=qq (show ∀u∈news1,u.oneCell'=true by rw[hn1,←acts_take];exact fun u hu=>acts_one hone u (List.mem_of_mem_take hu));have O2:=qq (show ∀u∈news2,u.oneCell'=true by rw[hn2,←acts_drop];exact fun u hu=>acts_one hone u (List.mem_of_mem_drop hu))
 have C1:=qq (show ∀t u,news1[t]? =some u→w.cell? ((⟨g,0,none⟩:Addr).add t)=some u by
   intro t u hu;rw[Addr.add_lit,Nat.zero_add];refine hcells t u ?_;rw[hn1,←acts_take,List.getElem?_take] at hu;split at hu
   · exact hu
   · cases hu)
 obtain⟨A,hA,C2⟩:∃A:Addr,(if acap=i+1 then some (⟨g,0,none⟩:Addr) else some ⟨g,(i+1)*8,none⟩)=some A∧Hid ((∀t,(A.add t).block=g)∧∀t u,news2[t]? =some u→w.cell? (A.add t)=some u):=by
  by_cases hh:acap=i+1
  · refine⟨⟨g,0,none⟩,by simp[hh],fun t=>by rw[Addr.add_lit],fun t u hu=> ?_⟩;have h0:news2.length=0:=by rw[L2.out];omega
    rw[List.length_eq_zero_iff.1 h0] at hu;simp at hu
  · refine⟨⟨g,(i+1)*8,none⟩,by simp[hh],fun t=>by rw[Addr.add_lit],fun t u hu=> ?_⟩;rw[hn2,←acts_drop,List.getElem?_drop] at hu;rw[Addr.add_lit];exact hcells _ u hu
 obtain⟨i0,ei,ez,es,eb⟩:=info_parts infoRAct;subst hrvs;obtain⟨rs,hrs⟩:∃rs,rs=a.regs:=⟨_,rfl⟩
 rw[←hrs] at hrr a7 hrl h1;obtain⟨m,hm⟩:∃m,m=rs.length:=⟨_,rfl⟩
 rw[←hm] at hrr a7 hrl;have HRR:=qq hrr;have HM:=qq hm;have H1:=qq h1;obtain⟨n,hn⟩:∃n,n=S.acts.length:=⟨_,rfl⟩
 rw[←hn] at c2 hil hl;have hi0:(0:Int)≤(i:Int):=by omega
 have hi1:(i:Int)<(n:Int):=by omega
 rw[←hn] at HG L2 hgc;have hic:i≤acap:=by omega
 have hic1:i+1≤acap:=by omega
 have hcm3:acap≤9223372036854775807:=by simpa[maxLen] using hgm
 have h01:(0:Int)≤(i:Int)+1:=by omega
 have h02:(i:Int)+1≤(n:Int):=by omega
 have hw1:IntKind.i64.wrap ((i:Int)+1)=(i:Int)+1:=IntWalk.i64_in _ (by omega);have htn:((i:Int)+1).toNat=i+1:=by omega
 have HA2:=qq C2.out.1;have HB2:=qq C2.out.2;have HC2:=qq c2;have HSF:=qq h.blk.free;obtain⟨xan,xaq,xoc,xdp,xex,xpa,xde,xrs⟩:=a;obtain⟨k,an,aq,rg,nd,pt,pr,oc,dp,pa,st,hw,de,ex⟩:=f;dsimp only at*;subst hk;dsimp only[factV,factC] at*;clear h hv ha hav han har hcell hn a0 a1 a2 a3 a4 a5 a6 hrv hrn hrr hm h1 hrs hlen hrow hone hgv hgcell hcells hn1 hn2 C2 hgf;go_enter Tryz.func93,Tryz.ntmps93
 go_wp2_with fail;go_loopw [142] (fun x wr=>∃k:Nat,k≤m∧x=.int .i64 (k:Nat)∧Hid (∀j:Nat,j<k→((rs[j]?).map fun r=>decide (r.seat.s≠14))=some false)∧Below w.heap.size w wr) (fun x _=>m - (intOf x).toNat)
 case atStart=>exact⟨0,by omega,by first | rfl | go_num,qq (fun j h=>absurd h (by omega)),by go_grown⟩
 case round=>
  obtain⟨k,hkm,rfl,HBE,hB⟩:=hrel;by_cases hlt:k<m
  · have hks:k<rs.length:=by rw[←HM.out];exact hlt
    obtain⟨rb,rfl,hrb,hrf,hrc⟩:=HRR.out (by omega);obtain⟨x,hx⟩:∃x,rs[k]? =some x:=⟨_,List.getElem?_eq_getElem hks⟩
    obtain⟨p0,p1,p2,p3,p4,p5⟩:=(hrc k x hx).below hB hrb;have HX:=qq hx;have hki:(k:Int)<(m:Int):=by omega
    have hk0:(0:Int)≤(k:Int):=by omega
    obtain⟨t,ht⟩:∃t,t=decide (x.seat.s≠14):=⟨_,rfl⟩
    have hse:(x.seat.s !=14)=t:=by rw[ht];by_cases h:x.seat.s=14<;>simp[h]
    have HT:=qq ht;have hBx:Below w.heap.size w (wr.alloc (.cells #[x.n,x.p,x.seat.p,x.seat.d,x.seat.s,x.seat.h] 199)):=hB.alloc hB.size _;clear ht hrc hrf hx;obtain⟨xn,xp,⟨xsp,xsd,xss,xsh⟩⟩:=x;dsimp only at p0 p1 p2 p3 p4 p5 hse hBx
    cases t with
    | true=>
     go_wp2_with fail;exfalso;have h2:decide (xss≠14)=true:=by have:=HT.out;simpa using this.symm
     have h3:=List.any_eq_false.1 H1.out _ (List.mem_of_getElem? HX.out);exact h3 h2
    | false=>
     go_wp2_with fail;go_roundw
     case rel => exact ⟨k + 1, by omega, by go_num, qq (fun j hj => by
         rcases Nat.lt_or_eq_of_le (Nat.le_of_lt_succ hj) with h1 | h1
         · exact HBE.out j h1
         · subst h1;rw[HX.out];simp only[Option.map_some];rw[←HT.out]),hBx⟩
     case measure=>(simp[intOf];omega)
  · obtain rfl:k=m:=by omega
    clear HBE HRR H1 HM;have hz0:w.heap.size≤wr.heap.size:=hB.size;have s0:=(hB.cell (p:=⟨R.sb,2,none⟩) hsb).trans HC2.out;have hsr:R.sb<wr.heap.size:=by omega
    have HO0:=qq (show(World.drew (wr.alloc (.cells #[] 116))).ownsRow 0 116 8 (.slice (some ⟨wr.heap.size,0,none⟩) 0 0) 0 [] from World.ownsRow_lit wr #[] 0 (Nat.zero_le _) (by decide) rfl);have HW0:=qq (show Below w.heap.size w (World.drew (wr.alloc (.cells #[] 116))) from(hB.alloc hB.size _).drew);have C1a:=qq (src_new C1.out HW0.out (fun t=>by rw[Addr.add_lit]) hg)
    have HM0:=qq (show ∃m,w.heap.size≤m∧(Value.slice (some ⟨wr.heap.size,0,none⟩) 0 0).ownBlock=some m from⟨_,hz0,rfl⟩);have p1:=qq (show 0+i≤maxLen∧(0+i)*80≤140737488355328∧0+i+(n - (i+1))≤maxLen∧(0+i+(n - (i+1)))*80≤140737488355328 from⟨by unfold maxLen;omega,by omega,by unfold maxLen;omega,by omega⟩);have hnn:i+(n - (i+1))=n - 1:=by omega
    have HNN:=qq hnn;clear hnn;go_wp2_with fail;go_region_law
     (first
       | (refine step_app rfl (.tmp 152) (.tmp 158) 31 rfl 0 116 i0 (.agg #[.int .i64 0,.int .i64 0,.int .i64 0,.int .i64 0,.float .f64 0,.int .i64 0,.int .i64 0,.slice none 0 0]) 8 80 Tryz.underlying31 ei ez es eb rfl (by decide) (.slice (some ⟨wr.heap.size,0,none⟩) 0 0) 0 [] (by rfl) HO0.out ⟨g,0,none⟩ i acap news1 (by rfl) L1.out C1a.out O1.out p1.out.1 p1.out.2.1 (Nat.zero_le _) ?_;intro v1 w1 hown1 hgrow1 hat1;have HB1:=qq (app_new HW0.out hgrow1 hat1 HM0.out);have s1:w1.cell? ⟨R.sb,2,none⟩=some (.slice (some ⟨g,0,none⟩) n acap):=(HB1.out.1.cell (p:=⟨R.sb,2,none⟩) hsb).trans HC2.out;have C2b:=qq (src_new HB2.out HB1.out.1 HA2.out hg);have HO1:=qq hown1;clear hown1 hgrow1 hat1)
       | (refine step_app rfl (.tmp 159) (.tmp 166) 31 rfl 0 116 i0 (.agg #[.int .i64 0,.int .i64 0,.int .i64 0,.int .i64 0,.float .f64 0,.int .i64 0,.int .i64 0,.slice none 0 0]) 8 80 Tryz.underlying31 ei ez es eb rfl (by decide) v1 (0+i) ([] ++news1) (by rfl) HO1.out A (n - (i+1)) (acap - (i+1)) news2 (by rfl) L2.out C2b.out O2.out p1.out.2.2.1 p1.out.2.2.2 (Nat.zero_le _) ?_;intro v2 w2 hown2 hgrow2 hat2;have HB3:=qq (app_new HB1.out.1 hgrow2 hat2 HB1.out.2);have s2:w2.cell? ⟨R.sb,2,none⟩=some (.slice (some ⟨g,0,none⟩) n acap):=(HB3.out.1.cell (p:=⟨R.sb,2,none⟩) hsb).trans HC2.out;have f2:w2.frozen? ⟨R.sb,2,none⟩=false:=(HB3.out.1.frozen (p:=⟨R.sb,2,none⟩) hsb).trans (HSF.out 2);have HO2:=qq hown2;obtain⟨a2,cc2,rfl⟩:=row_slice hown2;clear hown2 hgrow2 hat2))
    all_goals go_wp2_with fail
    all_goals go_ret
    all_goals (have ho:=HO2.out;obtain⟨hbf,mm,hmm,hov⟩:=HB3.out;have hnn:=HNN.out;simp only[Nat.zero_add] at ho hov⊢;rw[hnn] at ho hov⊢;rw[←HFIN.out] at ho;exact⟨rfl,HG.out _ _ mm hbf ho hov hmm⟩)
end Go.Proofs.YtlkajejbfojkeaaGreatDoor
