/- StoK, StoI -/
import Derived.Test.YtlkajejbfojkeaaGreatDoorKStoJ
import Derived.Lib.SliceRun
import Derived.LaidEqlPtr
set_option linter.unusedSimpArgs false
set_option linter.unusedVariables false
set_option maxRecDepth 100000
set_option maxHeartbeats 16000000
namespace Go.Proofs.YtlkajejbfojkeaaGreatDoor
open Go.RowKit
theorem enrolled_no1 (L : SLoc) (S : Sto) (f : SFact) (i : Nat) (x : Nat × Value) (a : SAct) (w : World) (h : StoreAt L S w) (hl : a.regs.length ≤ 6) (hx : L.ab[i]? = some x) (ha : S.acts[i]? = some a) (hpr : 1 ≤ f.pr ∧ f.pr ≤ 2) (hrg : f.rg ≠ (a.regs.length : Int)) :
    Calls Tryz.prog 193 #[.pointer (some ⟨x.1,0,none⟩),factV f] w fun e w'=>e=.returned (.bool false)∧SGoes L S w w':=by
 have HN:=qq (fun W=>seatNew_of f.pr 1 W hpr (.inl rfl));have H:=qq h;obtain⟨b1,b2⟩:=h.act i x a hx ha;have hsb:=b1.lt;obtain⟨av,cap,hv⟩:=row_slice b2;obtain⟨n,hnn⟩:∃n,n=a.regs.length:=⟨_,rfl⟩
 rw[←hnn] at hv hrg hl;have HB:=qq (fun W (hW:StoreAt L S W)=>(show Blk W x.1 (actC a (.slice av n cap)) by rw[←hv];exact(hW.act i x a hx ha).1));have HX:=qq (h.ne_act hx);have HV:=qq hv;obtain⟨i0,ei,ez,es,eb⟩:=info_parts infoReg;obtain⟨k,an,aq,rg,nd,pt,pr,oc,dp,pa,st,hw,de,ex⟩:=f;obtain⟨xb,xv⟩:=x;obtain⟨aan,aaq,aoc,adp,aex,apa,ade,regs⟩:=a;dsimp only at*;dsimp only[factV,factC] at*
 have HRG:=qq hrg;clear hrg;clear hnn hv hpr h b1 b2 ha hx;go_enter Tryz.func193,Tryz.ntmps193;go_wp2_with fail
 (with_reducible refine(HN.out _).mono ?_)
 rintro e w1 ⟨rfl,hb1⟩;have HK1:=qq ((Blk.fresh w #[k,an,aq,rg,nd,pt,pr,oc,dp,pa,st,hw,de,.float .f64 ex] 39 _ rfl).below hb1);have B1:Below w.heap.size w w1:=below_then (by go_grown) hb1;have H1:=qq (H.out.below B1);have hz1:=hb1.size;simp only[World.size_alloc] at hz1;have hs1:xb<w1.heap.size:=by omega
 have hs2:w.heap.size<w1.heap.size:=by omega
 obtain⟨q,qf⟩:=HK1.out.out;obtain⟨c,cf⟩:=(HB.out _ H1.out).out;go_wp2_with fail;have hne:(rg !=(n:Int))=true:=by simpa using HRG.out
 go_region
 all_goals go_wp2_with fail
 all_goals go_ret
 all_goals exact⟨rfl,SGoes.same H.out (below_then B1 (by go_grown))⟩
theorem enrolled_no2 (L : SLoc) (S : Sto) (f : SFact) (i : Nat) (x : Nat × Value) (a : SAct) (w : World) (h : StoreAt L S w) (hl : a.regs.length ≤ 6) (hx : L.ab[i]? = some x) (ha : S.acts[i]? = some a) (hpr : 1 ≤ f.pr ∧ f.pr ≤ 2) (hrg : f.rg = (a.regs.length : Int)) (hde : a.de ≠ 0) :
    Calls Tryz.prog 193 #[.pointer (some ⟨x.1,0,none⟩),factV f] w fun e w'=>e=.returned (.bool false)∧SGoes L S w w':=by
 have HN:=qq (fun W=>seatNew_of f.pr 1 W hpr (.inl rfl));have H:=qq h;obtain⟨b1,b2⟩:=h.act i x a hx ha;have hsb:=b1.lt;obtain⟨av,cap,hv⟩:=row_slice b2;obtain⟨n,hnn⟩:∃n,n=a.regs.length:=⟨_,rfl⟩
 rw[←hnn] at hv hrg hl;have HB:=qq (fun W (hW:StoreAt L S W)=>(show Blk W x.1 (actC a (.slice av n cap)) by rw[←hv];exact(hW.act i x a hx ha).1));have HX:=qq (h.ne_act hx);have HV:=qq hv;obtain⟨i0,ei,ez,es,eb⟩:=info_parts infoReg;obtain⟨k,an,aq,rg,nd,pt,pr,oc,dp,pa,st,hw,de,ex⟩:=f;obtain⟨xb,xv⟩:=x;obtain⟨aan,aaq,aoc,adp,aex,apa,ade,regs⟩:=a;dsimp only at*;subst hrg;dsimp only[factV,factC] at*
 have HDE:=qq hde;clear hde;clear hnn hv hpr h b1 b2 ha hx;go_enter Tryz.func193,Tryz.ntmps193;go_wp2_with fail
 (with_reducible refine(HN.out _).mono ?_)
 rintro e w1 ⟨rfl,hb1⟩;have HK1:=qq ((Blk.fresh w #[k,an,aq,(n:Int),nd,pt,pr,oc,dp,pa,st,hw,de,.float .f64 ex] 39 _ rfl).below hb1);have B1:Below w.heap.size w w1:=below_then (by go_grown) hb1;have H1:=qq (H.out.below B1);have hz1:=hb1.size;simp only[World.size_alloc] at hz1;have hs1:xb<w1.heap.size:=by omega
 have hs2:w.heap.size<w1.heap.size:=by omega
 obtain⟨q,qf⟩:=HK1.out.out;obtain⟨c,cf⟩:=(HB.out _ H1.out).out;go_wp2_with fail;have hne:((n:Int) !=(n:Int))=false:=by simp
 have hd:(ade !=0)=true:=by simpa using HDE.out
 go_region
 all_goals go_wp2_with fail
 all_goals go_ret
 all_goals exact⟨rfl,SGoes.same H.out (below_then B1 (by go_grown))⟩
theorem enrolled_no3 (L : SLoc) (S : Sto) (f : SFact) (i : Nat) (x : Nat × Value) (a : SAct) (w : World) (h : StoreAt L S w) (hl : a.regs.length ≤ 6) (hx : L.ab[i]? = some x) (ha : S.acts[i]? = some a) (hpr : 1 ≤ f.pr ∧ f.pr ≤ 2) (hrg : f.rg = (a.regs.length : Int)) (hde : a.de = 0) (hno : (a.regs.any fun r => decide (r.n = f.nd ∧ r.p = f.pt)) = true) :
    Calls Tryz.prog 193 #[.pointer (some ⟨x.1,0,none⟩),factV f] w fun e w'=>e=.returned (.bool false)∧SGoes L S w w':=by
 have HN:=qq (fun W=>seatNew_of f.pr 1 W hpr (.inl rfl));have H:=qq h;obtain⟨b1,b2⟩:=h.act i x a hx ha;have hsb:=b1.lt;obtain⟨av,cap,hv⟩:=row_slice b2;obtain⟨n,hnn⟩:∃n,n=a.regs.length:=⟨_,rfl⟩
 have HC:=qq (fun W (hW:StoreAt L S W) (hp:Blk W w.heap.size (factC f))=>(by
   have:=containsR_enr w.heap.size 0 a.regs (fun r=>decide (r.n=f.nd∧r.p=f.pt)) x.2 W (hW.act i x a hx ha).2 (by omega) (fun W' r hb=>enrolled1_of w.heap.size f r W' (hp.below hb));rw[hno] at this;exact this:Calls Tryz.prog 174 #[x.2,.func (.func 255) #[] #[.pointer (some ⟨w.heap.size,0,none⟩)]] W (Makes (.bool true) W)))
 rw[←hnn] at hv hrg hl;have HB:=qq (fun W (hW:StoreAt L S W)=>(show Blk W x.1 (actC a (.slice av n cap)) by rw[←hv];exact(hW.act i x a hx ha).1));have HX:=qq (h.ne_act hx);have HV:=qq hv;rw[hv] at HC;obtain⟨i0,ei,ez,es,eb⟩:=info_parts infoReg;obtain⟨k,an,aq,rg,nd,pt,pr,oc,dp,pa,st,hw,de,ex⟩:=f;obtain⟨xb,xv⟩:=x;obtain⟨aan,aaq,aoc,adp,aex,apa,ade,regs⟩:=a;dsimp only at*;subst hrg hde
 dsimp only[factV,factC] at*;clear hno hnn hv hpr h b1 b2 ha hx;go_enter Tryz.func193,Tryz.ntmps193;go_wp2_with fail
 (with_reducible refine(HN.out _).mono ?_)
 rintro e w1 ⟨rfl,hb1⟩;have HK1:=qq ((Blk.fresh w #[k,an,aq,(n:Int),nd,pt,pr,oc,dp,pa,st,hw,de,.float .f64 ex] 39 _ rfl).below hb1);have B1:Below w.heap.size w w1:=below_then (by go_grown) hb1;have H1:=qq (H.out.below B1);have hz1:=hb1.size;simp only[World.size_alloc] at hz1;have hs1:xb<w1.heap.size:=by omega
 have hs2:w.heap.size<w1.heap.size:=by omega
 obtain⟨q,qf⟩:=HK1.out.out;obtain⟨c,cf⟩:=(HB.out _ H1.out).out;go_wp2_with fail;have hne:((n:Int) !=(n:Int))=false:=by simp
 go_region_held3 (fun w'=>w'.cell? ⟨w.heap.size,3,none⟩=some (.int .i64 (n:Int))∧w'.cell? ⟨xb,7,none⟩=some (.slice av n cap)∧w'.cell? ⟨xb,6,none⟩=some (.int .i64 0))
  (first | exact⟨q 3,c 7,c 6⟩ | go_keep | ((repeat' apply And.intro)<;>go_keep)) (first
  | (go_at_call 174;refine(HC.out _ (H1.out.below (by go_grown)) (HK1.out.below (by go_grown))).mono ?_;rintro e w2 ⟨rfl,hb2⟩;have B2:Below w.heap.size w w2:=below_then (below_then B1 (by go_grown)) hb2;have H2:=qq ((H1.out.below (by go_grown)).below hb2);have HK2:=qq ((HK1.out.below (by go_grown)).below hb2);have HS2:=qq ((Blk.fresh w1 #[pr,.int .i64 1,.int .i64 1,.int .i64 0] 53 _ rfl).below (by go_grown) |>.below hb2);clear q qf c cf;obtain⟨q,qf⟩:=HK2.out.out;obtain⟨c,cf⟩:=(HB.out _ H2.out).out))
 all_goals go_wp2_with fail
 all_goals go_ret
 all_goals exact⟨rfl,SGoes.same H.out (below_then B2 (by go_grown))⟩
theorem obj_of_cell {w:World} {a:Addr} {v:Value} (h:w.cell? a=some v):∃c t m,w.heap[a.block]? =some (.cells c t m):=by
 unfold World.cell? at h;split at h
 · exact⟨_,_,_,by assumption⟩
 · cases h
theorem sameAddr_blk {P:Program} {w:World} {a b:Addr} {va vb:Value} (hne:a≠b) (ha:w.cell? a=some va) (hb:w.cell? b=some vb) (hsp:a.spot=none) (hsq:b.spot=none) (fa:∀i,w.frozen? ⟨a.block,i,none⟩=false) (fb:∀i,w.frozen? ⟨b.block,i,none⟩=false):(sameAddr a b).run P w=.ok false w:=by
 obtain⟨ca,ta,ma,oa⟩:=obj_of_cell ha;obtain⟨cb,tb,mb,ob⟩:=obj_of_cell hb;obtain⟨ba,fo,sp⟩:=a;obtain⟨bb,go,sq⟩:=b;dsimp only at hsp hsq fa fb oa ob;subst hsp hsq;by_cases hbl:ba=bb
 · subst hbl;simp[sameAddr,hne]
 · simp[sameAddr,hbl,fa,fb,oa,ob,noView,viewAt,World.shape?,mayBeOne,stringish]
theorem infoActS:(Tryz.prog.info? 51).map (fun i=>decide (i.size≠0))=some true:=by kernel_rfl
theorem eqlPtr (b x : Nat) (w : World) (va vb : Value) (ha : w.cell? ⟨b, 0, none⟩ = some va) (hb : w.cell? ⟨x, 0, none⟩ = some vb) (fa : ∀ i, w.frozen? ⟨b, i, none⟩ = false) (fb : ∀ i, w.frozen? ⟨x, i, none⟩ = false) :
    (binOp .eql 159 (.pointer (some ⟨b,0,none⟩)) (.pointer (some ⟨x,0,none⟩))).run Tryz.prog w=.ok (.bool (decide (b=x))) w:=by
 obtain⟨j,hj,hjs⟩:=Option.map_eq_some_iff.1 infoActS;have hsz:j.size≠0:=of_decide_eq_true hjs;by_cases h:b=x
 · subst h;rw[decide_eq_true rfl];exact run_eql_ptr_same w _ Tryz.underlying159 hj
 · rw[decide_eq_false h];have hs:(sameAddr ⟨b,0,none⟩ ⟨x,0,none⟩).run Tryz.prog w=.ok false w:=sameAddr_blk (by intro e;injection e with e;exact h e) ha hb rfl rfl fa fb;have hd:∀d:Nat,(Op.equalIn (d+1) 159 (.pointer (some ⟨b,0,none⟩)) (.pointer (some ⟨x,0,none⟩))).run Tryz.prog w=.ok false w:=fun d=>by
    simp[Op.equalIn,run_underlying Tryz.underlying159,sizeOf,typeInfo,hj,hsz,hs]
   simp only[binOp];simp[Op.equal,Op.maxDepth,hd 9999]
theorem acted2_yes (b p:Nat) (w:World) (hp:Blk w p #[.pointer (some ⟨b,0,none⟩)]) (va:Value) (ha:w.cell? ⟨b,0,none⟩=some va) (fa:∀i,w.frozen? ⟨b,i,none⟩=false):Calls Tryz.prog 196 #[.pointer (some ⟨b,0,none⟩),.pointer (some ⟨p,0,none⟩)] w (Makes (.bool true) w):=by
 have c0:w.cell? ⟨p,0,none⟩=some (.pointer (some ⟨b,0,none⟩)):=hp.cell 0;have heq:=eqlPtr b b w va va ha ha fa fa;rw[decide_eq_true rfl] at heq;clear hp ha fa;go_enter Tryz.func196,Tryz.ntmps196;go_wp2_with fail;go_ret;exact⟨rfl,by go_grown⟩
theorem acted2_no (b x p:Nat) (w:World) (hp:Blk w p #[.pointer (some ⟨x,0,none⟩)]) (hne:b≠x) (va vb:Value) (ha:w.cell? ⟨b,0,none⟩=some va) (hb:w.cell? ⟨x,0,none⟩=some vb) (fa:∀i,w.frozen? ⟨b,i,none⟩=false) (fb:∀i,w.frozen? ⟨x,i,none⟩=false):Calls Tryz.prog 196 #[.pointer (some ⟨b,0,none⟩),.pointer (some ⟨p,0,none⟩)] w (Makes (.bool false) w):=by
 have c0:w.cell? ⟨p,0,none⟩=some (.pointer (some ⟨x,0,none⟩)):=hp.cell 0;have heq:=eqlPtr b x w va vb ha hb fa fb;rw[decide_eq_false hne] at heq;clear hp ha hb fa fb hne;go_enter Tryz.func196,Tryz.ntmps196;go_wp2_with fail;go_ret;exact⟨rfl,by go_grown⟩
theorem indexP_acted (p : Nat) {α : Type} (l : List α) (q : α → Bool) (av : Value) (ab : List (Nat × Value)) (w : World) (hrow : w.ownsRow 0 159 1 av l.length (ptrs ab)) (hl : l.length ≤ 1000)
    (hp:∀(W:World) (j:Nat) (x:Nat×Value) (a:α),Below w.heap.size w W→ab[j]? =some x→l[j]? =some a→Calls Tryz.prog 196 #[.pointer (some ⟨x.1,0,none⟩),.pointer (some ⟨p,0,none⟩)] W (Makes (.bool (q a)) W)):
    Calls Tryz.prog 191 #[av,.func (.func 196) #[] #[.pointer (some ⟨p,0,none⟩)]] w (Makes (.int .i64 (oix (l.findIdx? q))) w):=by
 obtain⟨a,cap,rfl,hab,hr⟩:=ptr_row hrow;have HR:=qq hr;have HP:=qq hp;have HA:=qq hab;clear hr hp hab hrow;obtain⟨n,hn⟩:∃n,n=l.length:=⟨_,rfl⟩
 rw[←hn] at hl HR HA⊢;have HN:=qq hn;clear hn;go_enter Tryz.func191,Tryz.ntmps191;go_wp2_with fail;go_loopw [8] (fun i wr=>∃k:Nat,k≤n∧i=.int .i64 (k:Nat)∧Hid (∀(j:Nat) (h:j<l.length),j<k→q l[j]=false)∧Below w.heap.size w wr) (fun i _=>n - (intOf i).toNat)
 case atStart=>exact⟨0,by omega,by go_num,qq (fun j _ h=>absurd h (by omega)),Below.refl _ _⟩
 case round=>
  obtain⟨k,hk,rfl,HBE,hB⟩:=hrel;by_cases hlt:k<n
  · have hks:k<l.length:=by rw[←HN.out];exact hlt
    obtain⟨g,rfl,hg,hfz,hcell⟩:=HR.out (by omega);obtain⟨x,hx⟩:∃x,ab[k]? =some x:=⟨_,List.getElem?_eq_getElem (by rw[HA.out];exact hlt)⟩
    have c0:wr.cell? ⟨g,k,none⟩=some (.pointer (some ⟨x.1,0,none⟩)):=(hB.cell (p:=⟨g,k,none⟩) hg).trans (hcell k x hx);have hki:(k:Int)<(n:Int):=by omega
    have hk0:(0:Int)≤(k:Int):=by omega
    have hc:=fun W hW=>HP.out W k x l[k] hW hx (List.getElem?_eq_getElem hks)
    obtain⟨t,ht⟩:∃t,t=q l[k]:=⟨_,rfl⟩
    rw[←ht] at hc;have HT:=qq ht;have HC:=qq hc;clear ht hc hcell hx hfz;obtain⟨xb,xv⟩:=x;dsimp only at c0 HC;go_wp2_with fail;refine(HC.out _ (below_then hB (by go_grown))).mono ?_;rintro e w1 ⟨rfl,hb1⟩;have hB1:Below w.heap.size w w1:=below_then hB (below_then (by go_grown) hb1)
    cases t with
    | true=>
     go_wp2_with fail;go_ret;exact⟨by rw[find_hit hks HBE.out HT.out.symm];rfl,hB1⟩
    | false=>
     go_wp2_with fail
     all_goals (go_roundw <;> first | exact ⟨k + 1, by omega, by go_num, qq (fun j h hj => by
         rcases Nat.lt_or_eq_of_le (Nat.le_of_lt_succ hj) with h1 | h1
         · exact HBE.out j h h1
         · subst h1;exact HT.out.symm),hB1⟩ | (simp[intOf];omega))
  · obtain rfl:k=n:=by omega
    go_wp2_with fail;go_ret;exact⟨by rw[find_miss (fun j h=>HBE.out j h (by rw[HN.out];exact h))];rfl,hB⟩
theorem clear_ptr (W : World) (ty : TypeId) (b o c : Nat) (hc : (W.cell? ⟨b, o, none⟩).isSome = true) (hf : W.frozen? ⟨b, o, none⟩ = false) :
    (Builtin.clear_ #[152] ty #[.slice (some ⟨b,o,none⟩) 1 c]).run Tryz.prog W=.ok (.tuple #[]) (W.setCell ⟨b,o,none⟩ (.pointer none)):=by
 have hst:=run_storeCells_cells (P:=Tryz.prog) b o [.pointer none] 0 W (by intro j hj;simp at hj;subst hj;simpa using hc) (by intro j hj;simp at hj;subst hj;simpa using hf) (by intro v hv;simp at hv;rw[hv];rfl);simp only[Nat.add_zero] at hst;have hv:∀w,(zeroValue 159).run Tryz.prog w=.ok (.pointer none) w:=fun w=>by
  obtain⟨i0,ei,ez,es,eb⟩:=info_parts infoActP;simp[zeroValue,typeInfo,ei,ez]
 have hz:(Builtin.zeroCells (Value.pointer none).cells 1).toList=[.pointer none]:=by kernel_rfl
 simp[Builtin.clear_,run_underlying Tryz.underlying152,hv,hz,hst,World.setCells]
def midL (ab:List (Nat×Value)) (i k:Nat):List (Nat×Value):=(ab.eraseIdx i).take k ++ab.drop k
theorem mid_start (ab:List (Nat×Value)) (i:Nat) (hi:i<ab.length):midL ab i i=ab:=by
 unfold midL;rw[List.eraseIdx_eq_take_drop_succ,List.take_append_of_le_length (by simp;omega),List.take_take,Nat.min_self,List.take_append_drop]
theorem mid_at (ab:List (Nat×Value)) (i k j:Nat) (hik:i≤k) (hk:k<ab.length) (hj:k≤j):(midL ab i k)[j]? =ab[j]? :=by
 unfold midL;have hl:((ab.eraseIdx i).take k).length=k:=by rw[List.length_take,List.length_eraseIdx_of_lt (by omega)];omega
 rw[List.getElem?_append_right (by omega),hl,List.getElem?_drop];congr 1;omega
theorem mid_step (ab:List (Nat×Value)) (i k:Nat) (x:Nat×Value) (hik:i≤k) (hx:ab[k+1]? =some x):(midL ab i k).set k x=midL ab i (k+1):=by
 obtain⟨hk,he⟩:=List.getElem?_eq_some_iff.1 hx;unfold midL;have hl:((ab.eraseIdx i).take k).length=k:=by rw[List.length_take,List.length_eraseIdx_of_lt (by omega)];omega
 rw[List.set_append_right _ _ (by omega),hl,Nat.sub_self,List.drop_eq_getElem_cons (by omega:k<ab.length),List.set_cons_zero];have hE:(ab.eraseIdx i)[k]? =some x:=by rw[List.getElem?_eraseIdx,if_neg (by omega)];exact hx
 obtain⟨hk2,he2⟩:=List.getElem?_eq_some_iff.1 hE;rw[List.take_succ_eq_append_getElem hk2,he2];simp
theorem mid_end (ab:List (Nat×Value)) (i:Nat) (hi:i<ab.length):(midL ab i (ab.length - 1)).take (ab.length - 1)=ab.eraseIdx i:=by
 unfold midL;have hl:(ab.eraseIdx i).length=ab.length - 1:=List.length_eraseIdx_of_lt hi;rw[List.take_append_of_le_length (by rw[List.length_take];omega),List.take_take,Nat.min_self,List.take_of_length_le (by omega)]
theorem deleteP (ab : List (Nat × Value)) (i g cap p : Nat) (x : Nat × Value) (w : World) (hrow : w.ownsRow 0 159 1 (.slice (some ⟨g, 0, none⟩) ab.length cap) ab.length (ptrs ab)) (hl : ab.length ≤ 8) (hx : ab[i]? = some x) (hd : ∀ (j : Nat) (y : Nat × Value), ab[j]? = some y → j ≠ i → y.1 ≠ x.1) (hp : Blk w p #[.pointer (some ⟨x.1, 0, none⟩)]) (hpg : p ≠ g) (ht : ∀ (j : Nat) (y : Nat × Value), ab[j]? = some y → y.1 ≠ g ∧ ∃ C : Array Value, 0 < C.size ∧ Blk w y.1 C) :
    Calls Tryz.prog 195 #[.slice (some ⟨g,0,none⟩) ab.length cap,.func (.func 196) #[] #[.pointer (some ⟨p,0,none⟩)]] w fun e w'=>e=.returned (.slice (some ⟨g,0,none⟩) (ab.length - 1) cap)∧w'.ownsRow 0 159 1 (.slice (some ⟨g,0,none⟩) (ab.length - 1) cap) (ab.length - 1) (ptrs (ab.eraseIdx i))∧w.grownBy w' (some g):=by
 have hil:=(List.getElem?_eq_some_iff.1 hx).1;have hcap:ab.length≤cap∧cap≤maxLen:=by
  obtain⟨g',cap',he,h1,h2,_⟩:=row_form hrow (by omega);simp at he;omega
 have hfi:ab.findIdx? (fun y=>decide (y.1=x.1))=some i:=by
  rw[List.findIdx?_eq_some_iff_getElem];refine⟨hil,?_,fun j hj=> ?_⟩
  · have:=(List.getElem?_eq_some_iff.1 hx).2;rw[this];simp
  · have:=hd j _ (List.getElem?_eq_getElem (by omega)) (by omega);simpa using this
 have hcx:∀W:World,w.heap.size≤W.heap.size→(∀k,k<w.heap.size→k≠g→W.heap[k]? =w.heap[k]?)→∀(j:Nat) (y:Nat×Value),ab[j]? =some y→∃v,W.cell? ⟨y.1,0,none⟩=some v∧∀i,W.frozen? ⟨y.1,i,none⟩=false:=fun W hz hW j y hy=>by
  obtain⟨h1,C,h2,h3⟩:=ht j y hy;have h4:=h3.same hz (hW _ h3.lt h1);exact⟨C[0],by rw[h4.cell];exact Array.getElem?_eq_getElem h2,h4.free⟩
 have hI:=indexP_acted p ab (fun y=>decide (y.1=x.1)) _ ab w hrow (by omega) (fun W j y a hb hy ha=>by
   have e:y=a:=by rw[hy] at ha;injection ha
   subst e;obtain⟨vx,vx1,vx2⟩:=hcx W hb.size (fun k hk _=>hb.block k hk) i x hx;obtain⟨vy,vy1,vy2⟩:=hcx W hb.size (fun k hk _=>hb.block k hk) j y hy;by_cases h:y.1=x.1
   · rw[decide_eq_true h];have:=acted2_yes x.1 p W (hp.below hb) vx vx1 vx2;rw[←h] at this;exact this
   · rw[decide_eq_false h];exact acted2_no y.1 x.1 p W (hp.below hb) h vy vx vy1 vx1 vy2 vx2)
 rw[hfi] at hI;dsimp only[oix] at hI;obtain⟨n,hn⟩:∃n,n=ab.length:=⟨_,rfl⟩
 rw[←hn] at hI hrow hl hil hcap⊢;have hI0:∀W:World,Blk W p #[.pointer (some ⟨x.1,0,none⟩)]→w.grownBy W (some g)→∀(j:Nat) (y:Nat×Value),ab[j]? =some y→j≠i→Calls Tryz.prog 196 #[.pointer (some ⟨y.1,0,none⟩),.pointer (some ⟨p,0,none⟩)] W (Makes (.bool false) W):=fun W hW hg j y hy hj=>by
  have hk:∀k,k<w.heap.size→k≠g→W.heap[k]? =w.heap[k]? :=fun k hk hkg=>hg.block k hk (fun e=>hkg (by injection e))
  obtain⟨vx,vx1,vx2⟩:=hcx W hg.size hk i x hx;obtain⟨vy,vy1,vy2⟩:=hcx W hg.size hk j y hy;exact acted2_no y.1 x.1 p W hW (hd j y hy hj) vy vx vy1 vx1 vy2 vx2
 have HI:=qq hI;have HD:=qq hI0;have HN:=qq hn;have HR:=qq hrow;have HP:=qq hp;have hgl:g<w.heap.size:=by obtain⟨g',cap',he,_,_,h3,_⟩:=row_form hrow (by omega);simp at he;omega
 obtain⟨hc1,hc2⟩:=hcap;unfold maxLen at hc2;clear hI hI0 hn hrow hp hfi hd hx hcx ht;have hi0:(0:Int)≤(i:Int):=by omega
 have hi1:((i:Int)== -1)=false:=by simp
 go_enter Tryz.func195,Tryz.ntmps195;go_wp2_with fail;refine HI.out.mono ?_;rintro e w1 ⟨rfl,hb1⟩;go_wp2_with fail;go_loopw [5,6,7] (fun ii jj vv wr=>∃k:Nat,i≤k∧k+1≤n∧ii=.int .i64 (k:Nat)∧jj=.int .i64 ((k+1:Nat):Int)∧Hid (wr.ownsRow 0 159 1 (.slice (some ⟨g,0,none⟩) n cap) n (ptrs (midL ab i k)))∧Hid (w.grownBy wr (some g))) (fun _ jj _ _=>n - (intOf jj).toNat)
 case atStart=>refine⟨i,Nat.le_refl _,hil,rfl,?_,qq (by rw[mid_start _ _ (by rw[←HN.out];exact hil)];exact row_heap HR.out (fun k hk=>hb1.block k (HR.out.lt k hk).2)),qq ⟨hb1.os,hb1.tape,hb1.output,hb1.size,fun k hk _=>hb1.block k hk⟩⟩<;>first | rfl | go_num
 case round=>
  obtain⟨k,hik,hkn,rfl,rfl,HRo,HGo⟩:=hrel;by_cases hlt:k+1<n
  · obtain⟨y,hy⟩:∃y,ab[k+1]? =some y:=⟨_,List.getElem?_eq_getElem (by rw[←HN.out];exact hlt)⟩
    have hPr:Blk wr p #[.pointer (some ⟨x.1,0,none⟩)]:=HP.out.same HGo.out.size (HGo.out.block p HP.out.lt (fun e=>hpg (by injection e)));have hD:=fun W hW hg=>HD.out W hW hg (k+1) y hy (by omega)
    obtain⟨g',cap',he,_,_,hgl2,hcl,hfz⟩:=row_form HRo.out (by omega);obtain⟨rfl,rfl⟩:g=g'∧cap=cap':=by simp at he;exact he
    have c0:wr.cell? ⟨g,k+1,none⟩=some (.pointer (some ⟨y.1,0,none⟩)):=hcl (k+1) _ (by rw[List.getElem?_map,mid_at _ _ _ _ hik (by rw[←HN.out];omega) (by omega),hy];rfl);obtain⟨z,hz⟩:∃z,(ptrs (midL ab i k))[k]? =some z:=⟨_,List.getElem?_eq_getElem (by rw[HRo.out.1];omega)⟩
    have cz:wr.cell? ⟨g,k,none⟩=some z:=hcl k _ hz;have hst:ptrs (midL ab i (k+1))=(ptrs (midL ab i k)).set k (.pointer (some ⟨y.1,0,none⟩)):=by rw[←mid_step _ _ _ _ hik hy];unfold ptrs;rw[List.map_set]
    have HST:=qq hst;have HDD:=qq (hD _ hPr HGo.out);obtain⟨yb,yv⟩:=y;dsimp only at c0 HST HDD;clear hD hy hcl hz he hst hPr;have j0:(0:Int)≤((k+1:Nat):Int):=by omega
    have j1:((k+1:Nat):Int)<(n:Int):=by omega
    have k0:(0:Int)≤(k:Int):=by omega
    have k1:(k:Int)<(n:Int):=by omega
    have jt:((k+1:Nat):Int).toNat=k+1:=by omega
    go_wp2_with fail;refine HDD.out.mono ?_;rintro e w2 ⟨rfl,hb2⟩;have c1:w2.cell? ⟨g,k,none⟩=some z:=(hb2.cell (p:=⟨g,k,none⟩) hgl2).trans cz;have f1:w2.frozen? ⟨g,k,none⟩=false:=(hb2.frozen (p:=⟨g,k,none⟩) hgl2).trans (hfz k);have hro:w2.ownsRow 0 159 1 (.slice (some ⟨g,0,none⟩) n cap) n (ptrs (midL ab i k)):=row_heap HRo.out (fun q hq=>hb2.block q (HRo.out.lt q hq).2)
    have hr2:=row_set hro k (.pointer (some ⟨yb,0,none⟩)) (by omega);rw[←HST.out] at hr2;have HR2:=qq hr2;have HG2:Hid (w.grownBy (w2.setCell ⟨g,k,none⟩ (.pointer (some ⟨yb,0,none⟩))) (some g)):=qq (World.grownBy.trans (World.grownBy.trans HGo.out ⟨hb2.os,hb2.tape,hb2.output,hb2.size,fun q hq _=>hb2.block q hq⟩) ⟨rfl,rfl,rfl,by simp,fun q _ hq=>Below.heap_setCell _ _ _ _ (fun e=>hq (by rw[e]))⟩)
    clear hro hr2 hb2;go_wp2_with fail;go_roundw
    case rel=>exact⟨k+1,by omega,by omega,by go_num,by go_num,HR2,HG2⟩
    case measure=>(simp[intOf];omega)
  · obtain rfl:n=k+1:=by omega
    obtain⟨g',cap',he,_,_,hgl2,hcl,hfz⟩:=row_form HRo.out (by omega);obtain⟨rfl,rfl⟩:g=g'∧cap=cap':=by simp at he;exact he
    obtain⟨z,hz⟩:∃z,(ptrs (midL ab i k))[k]? =some z:=⟨_,List.getElem?_eq_getElem (by rw[HRo.out.1];omega)⟩
    have hcz:=clear_ptr wr 0 g k (cap - k) (by rw[hcl k _ hz];rfl) (hfz k);have hr2:=row_take (row_set HRo.out k (.pointer none) (by omega)) k (by omega);have hfin:((ptrs (midL ab i k)).set k (.pointer none)).take (k*1)=ptrs (ab.eraseIdx i):=by
     have:=mid_end ab i (by rw[←HN.out];omega);rw[←HN.out] at this;simp only[Nat.add_sub_cancel] at this;rw[←this,Nat.mul_one,List.take_set_of_le (Nat.le_refl _)];unfold ptrs;rw[List.map_take]
    rw[hfin] at hr2;have HR2:=qq hr2;have HG2:Hid (w.grownBy (wr.setCell ⟨g,k,none⟩ (.pointer none)) (some g)):=qq (World.grownBy.trans HGo.out ⟨rfl,rfl,rfl,by simp,fun q _ hq=>Below.heap_setCell _ _ _ _ (fun e=>hq (by rw[e]))⟩);clear hcl hz hr2 hfin he;go_wp2_with fail;go_ret;exact⟨rfl,HR2.out,HG2.out⟩
end Go.Proofs.YtlkajejbfojkeaaGreatDoor
