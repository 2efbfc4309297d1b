/- StepM, LdD -/
import Derived.Test.YtlkajejbfojkeaaGreatDoorWLdAToLdB
set_option linter.unusedSimpArgs false
set_option linter.unusedVariables false
set_option maxRecDepth 100000
set_option maxHeartbeats 16000000
namespace Go.Proofs.YtlkajejbfojkeaaGreatDoor
open Go.RowKit Go.Shelf
section
variable {P:Program} {ops:Array Oper} {Q:Exit→Act→World→Prop} {md:Region.Mode} {S:World→Prop}
def lastOp (md:Region.Mode) (ops:Array Oper) (j:Nat):Bool:=match ops[j]? with
 | none=>false
 | some oj=>(List.range ops.size).all fun k=>k==j || oj.after.any (fun e=>Region.binds md e && e.on==k)
def wpAnyM (P:Program) (md:Region.Mode) (ops:Array Oper) (Q:Exit→Act→World→Prop) (S:World→Prop):Nat→Array Bool→Act→World→Prop
 | 0,listed,a,w=>Region.ready md ops listed=[]∧Q .normal a w
 | fuel+1,listed,a,w=>
  (Region.ready md ops listed=[]→Q .normal a w)∧
  ∀i∈Region.ready md ops listed,wpOp P ops Q i (fun a' w'=>(lastOp md ops i=true∨S w')∧wpAnyM P md ops Q S fuel (listed.setIfInBounds i true) a' w') a w
theorem wpAny_of_M:∀(fuel:Nat) (listed:Array Bool) (a:Act) (w:World),wpAnyM P md ops Q S fuel listed a w→wpAny P md ops Q fuel listed a w
 | 0,_,_,_,h=>h
 | fuel+1,_,_,_,h=>⟨h.1,fun i hi=>wpOp_mono (fun a' w' h'=>wpAny_of_M fuel _ a' w' h'.2) (h.2 i hi)⟩
theorem not_last {i j:Nat} {listed:Array Bool} (hi:i∈Region.ready md ops listed) (hj:j∈Region.ready md ops listed) (hne:j≠i):lastOp md ops j=false:=by
 obtain⟨hiun,oi,hoi,_⟩:=mem_ready.1 hi;obtain⟨_,oj,hoj,hall⟩:=mem_ready.1 hj;unfold lastOp;rw[hoj];dsimp only;rw[List.all_eq_false];refine⟨i,List.mem_range.2 (Array.getElem?_eq_some_iff.1 hoi).1,?_⟩;have h1:(i==j)=false:=by simpa using(Ne.symm hne)
 rw[h1,Bool.false_or];intro hx;obtain⟨e,he,hb⟩:=Array.any_eq_true'.1 hx;simp only[Bool.and_eq_true,beq_iff_eq] at hb;have h2:=hall e he hb.1;rw[hb.2] at h2;rcases Nat.lt_or_ge i listed.size with h' | h'
 · simp[h'] at hiun h2;rw[hiun] at h2;cases h2
 · simp[Array.getElem?_eq_none h'] at h2
theorem wpAnyM_first {i : Nat} {oi : Oper} {v : Value} (hi : ops[i]? = some oi) (hsel : ∀ (j : Nat) (o : Oper) cs b, ops[j]? = some o → o.op ≠ .select cs b)
    (hQ:∀c a w,Q (.panic c) (a.put oi.dst v) w→Q (.panic c) a w):
    ∀(fuel:Nat) (listed:Array Bool) (a:Act) (w:World),
     (∀j oj,ops[j]? =some oj→j≠i→listed.getD j true=false→(∀e∈oj.after,Region.binds md e=true→e.on≠i)→oi.apart ops oj=true)→
     i∈Region.ready md ops listed→YieldsIf P ops S oi v a→S w→
     wpAnyM P md ops Q S fuel (listed.setIfInBounds i true) (a.put oi.dst v) w→wpAnyM P md ops Q S (fuel+1) listed a w:=by
 intro fuel
 induction fuel with
 | zero=>
  intro listed a w _ hr hy hS H;refine⟨fun h=>(by rw[h] at hr;cases hr),fun j hj=> ?_⟩;by_cases hji:j=i
  · subst hji;exact hy.wpOp hi hS ⟨.inr hS,H⟩
  · have:=ready_mono hj hji;rw[H.1] at this
    cases this
 | succ fuel ih=>
  intro listed a w hfree hr hy hS H;refine⟨fun h=>(by rw[h] at hr;cases hr),fun j hj=> ?_⟩;by_cases hji:j=i
  · subst hji;exact hy.wpOp hi hS ⟨.inr hS,H⟩
  · have hl:=not_last hr hj hji;have h1:=wpOp_mono (K':=fun a' w'=>S w'∧wpAnyM P md ops Q S fuel ((listed.setIfInBounds i true).setIfInBounds j true) a' w') (fun a' w' h'=>⟨h'.1.resolve_left (by rw[hl];simp),h'.2⟩) (H.2 j (ready_mono hj hji));obtain⟨hjun,oj,hoj,hall⟩:=mem_ready.1 hj;have hnot:∀e∈oj.after,Region.binds md e=true→e.on≠i:=fun e he hb heq=>by
     have h1:=hall e he hb;have h0:=(mem_ready.1 hr).1;rw[heq] at h1;rcases Nat.lt_or_ge i listed.size with h' | h'
     · simp[h'] at h0 h1;rw[h0] at h1;cases h1
     · simp[Array.getElem?_eq_none h'] at h1
    have h2:=wpOp_putIf hoj (hfree j oj hoj hji hjun hnot) (fun cs b=>hsel i oi cs b hi) (fun cs b=>hsel j oj cs b hoj) hQ hy h1;refine wpOp_mono (fun a' w' h3=>⟨.inr h3.2.1,ih (listed.setIfInBounds j true) a' w' (fun k ok hk hki hun hno=>hfree k ok hk hki ?_ hno) (ready_mono hr (Ne.symm hji)) h3.1 h3.2.1 ?_⟩) h2
    · by_cases hjk:j=k
      · subst hjk;exact hjun
      · rw[getD_set_ne true hjk] at hun;exact hun
    · rw[Array.setIfInBounds_comm _ _ hji];exact h3.2.2
theorem wpAnyM_narrow {S' : World → Prop} (hS : ∀ w, S' w → S w) :
    ∀(fuel:Nat) (listed:Array Bool) (a:Act) (w:World),wpAnyM P md ops Q S' fuel listed a w→wpAnyM P md ops Q S fuel listed a w
 | 0,_,_,_,h=>h
 | fuel+1,_,_,_,h=>⟨h.1,fun i hi=>wpOp_mono (fun a' w' h'=>⟨h'.1.imp id (hS _),wpAnyM_narrow hS fuel _ a' w' h'.2⟩) (h.2 i hi)⟩
theorem reg_start {id : Nat} {a : Act} {w : World} (F : World → Prop) (hm : P.follows .mixedOrders = true) (hF : F w.drew)
    (h:∀w1,F w1→wpAnyM P .any ops Q F ops.size (Array.replicate ops.size false) a w1):(Code.region id ops true).wp P Q a w:=
 wp_region_any hm (wpAny_of_M _ _ _ _ (h _ hF))
theorem takeM {fuel : Nat} {listed : Array Bool} {a : Act} {w : World} {oi : Oper} {d : Option Tmp} {v : Value}
    (i:Nat) (hi:ops[i]? =some oi) (hd:oi.dst=d) (hS:S w) (hy:∀w,S w→(execOp a.eval oi).run P w=.ok (.value v) w) (h:wpAnyM P md ops Q S fuel (listed.setIfInBounds i true) (a.put d v) w)
    (hs:Region.noSelect ops=true:=by kernel_rfl) (hf:Region.free md ops listed i=true:=by kernel_rfl) (hr:(Region.ready md ops listed).contains i=true:=by kernel_rfl)
    (hQ:∀c a w,Q (.panic c) (a.put oi.dst v) w→Q (.panic c) a w:=by exact fun _ _ _ h=>h) (hw:Region.wanted oi (yielded ops a.tmps)=true:=by rfl):wpAnyM P md ops Q S (fuel+1) listed a w:=by
 subst hd;exact wpAnyM_first hi (Region.noSelect_spec hs) hQ fuel listed a w (Region.free_spec hi hf) (by simpa using hr) (.inl ⟨hw,hy⟩) hS h
theorem skipM {fuel : Nat} {listed : Array Bool} {a : Act} {w : World} {oi : Oper} {d : Option Tmp}
    (i:Nat) (hi:ops[i]? =some oi) (hd:oi.dst=d) (hS:S w) (h:wpAnyM P md ops Q S fuel (listed.setIfInBounds i true) (a.put d undef) w)
    (hs:Region.noSelect ops=true:=by kernel_rfl) (hf:Region.free md ops listed i=true:=by kernel_rfl) (hr:(Region.ready md ops listed).contains i=true:=by kernel_rfl)
    (hQ:∀c a w,Q (.panic c) (a.put oi.dst undef) w→Q (.panic c) a w:=by exact fun _ _ _ h=>h) (hw:Region.wanted oi (yielded ops a.tmps)=false:=by rfl):wpAnyM P md ops Q S (fuel+1) listed a w:=by
 subst hd;exact wpAnyM_first hi (Region.noSelect_spec hs) hQ fuel listed a w (Region.free_spec hi hf) (by simpa using hr) (.inr ⟨hw,rfl⟩) hS h
theorem doneM {listed:Array Bool} {a:Act} {w:World} (hr:Region.ready md ops listed=[]) (h:Q .normal a w):∀fuel,wpAnyM P md ops Q S fuel listed a w
 | 0=>⟨hr,h⟩
 | _+1=>⟨fun _=>h,by rw[hr];simp⟩
theorem allM {rs : List Nat} {fuel : Nat} {listed : Array Bool} {a : Act} {w : World} (hr : Region.ready md ops listed = rs) (hne : rs ≠ [])
    (h:∀i∈rs,wpOp P ops Q i (fun a' w'=>(lastOp md ops i=true∨S w')∧wpAnyM P md ops Q S fuel (listed.setIfInBounds i true) a' w') a w):wpAnyM P md ops Q S (fuel+1) listed a w:=
 ⟨fun h0=>absurd (hr▸h0) hne,hr▸h⟩
def Nxt (P:Program) (md:Region.Mode) (ops:Array Oper) (Q:Exit→Act→World→Prop) (S:World→Prop) (fuel:Nat) (listed:Array Bool) (i:Nat) (a:Act) (w:World):Prop:=
 ∃F:World→Prop,(∀w,F w→S w)∧F w∧(F w→wpAnyM P md ops Q F fuel (listed.setIfInBounds i true) a w)
theorem Nxt.go {fuel:Nat} {listed:Array Bool} {i:Nat} {a:Act} {w:World} (h:Nxt P md ops Q S fuel listed i a w):(lastOp md ops i=true∨S w)∧wpAnyM P md ops Q S fuel (listed.setIfInBounds i true) a w:=by
 obtain⟨F,h1,h2,h3⟩:=h;exact⟨.inr (h1 _ h2),wpAnyM_narrow h1 _ _ _ _ (h3 h2)⟩
theorem one_M {fuel : Nat} {listed : Array Bool} {a : Act} {w : World} (i : Nat) (hr : Region.ready md ops listed = [i])
    (h:wpOp P ops Q i (Nxt P md ops Q S fuel listed i) a w):wpAnyM P md ops Q S (fuel+1) listed a w:=
 allM hr (by simp) (fun k hk=>by
   obtain rfl:k=i:=by simpa using hk
   exact wpOp_mono (fun _ _ h=>h.go) h)
theorem two_M {fuel : Nat} {listed : Array Bool} {a : Act} {w : World} (i j : Nat) (hr : Region.ready md ops listed = [i, j])
    (h1:wpOp P ops Q i (Nxt P md ops Q S fuel listed i) a w) (h2:wpOp P ops Q j (Nxt P md ops Q S fuel listed j) a w):wpAnyM P md ops Q S (fuel+1) listed a w:=
 allM hr (by simp) (fun k hk=>by
   rcases(by simpa using hk:k=i∨k=j) with rfl | rfl
   · exact wpOp_mono (fun _ _ h=>h.go) h1
   · exact wpOp_mono (fun _ _ h=>h.go) h2)
theorem ret_S {fuel : Nat} {listed : Array Bool} {i : Nat} {a : Act} {w : World} {d : Option Tmp} {v0 : Value} (hS : S w)
    (h:S w→wpAnyM P md ops Q S fuel (listed.setIfInBounds i true) (a.put d v0) w):∃v,Ending.returned v0=.returned v∧Nxt P md ops Q S fuel listed i (a.put d v) w:=
 ⟨v0,rfl,S,fun _ h=>h,hS,h⟩
theorem new_S {fuel : Nat} {listed : Array Bool} {a : Act} {w : World} {oi : Oper} {d : Option Tmp} (i : Nat) (v : Value) (C : Array Value) (T : TypeId) (hi : ops[i]? = some oi) (hd : oi.dst = d) (hrun : (execOp a.eval oi).run P w = .ok (.value v) (w.alloc (.cells C T))) (hS : S (w.alloc (.cells C T)))
    (h:∀w2,S w2∧Blk w2 w.heap.size C∧Below w.heap.size w w2→wpAnyM P md ops Q (fun w'=>S w'∧Blk w' w.heap.size C∧Below w.heap.size w w') fuel (listed.setIfInBounds i true) (a.put d v) w2)
    (hw:Region.wanted oi (yielded ops a.tmps)=true:=by rfl):wpOp P ops Q i (Nxt P md ops Q S fuel listed i) a w:=
 wpOp_alone i v _ hi hd hw hrun (show Nxt P md ops Q S fuel listed i (a.put d v) (w.alloc (.cells C T)) from⟨fun w'=>S w'∧Blk w' w.heap.size C∧Below w.heap.size w w',fun _ h=>h.1,⟨hS,Blk.fresh _ _ _ _ rfl,(Below.refl _ _).alloc (Nat.le_refl _) _⟩,fun h1=>h _ h1⟩)
theorem last_S {fuel : Nat} {listed : Array Bool} {a : Act} {w : World} {oi : Oper} (i : Nat) (w1 : World) (hi : ops[i]? = some oi) (hd : oi.dst = none) (hrun : (execOp a.eval oi).run P w = .ok .skip w1) (h : Q .normal a w1)
    (hw:Region.wanted oi (yielded ops a.tmps)=true:=by rfl) (hl:lastOp md ops i=true:=by kernel_rfl) (hr:Region.ready md ops listed=[i]:=by kernel_rfl)
    (hr2:Region.ready md ops (listed.setIfInBounds i true)=[]:=by kernel_rfl):wpAnyM P md ops Q S (fuel+1) listed a w:=
 allM hr (by simp) (fun k hk=>by
   obtain rfl:k=i:=by simpa using hk
   refine wpOp_step hi (fun K' hK=> ?_);rw[if_pos hw];unfold Oper.wp;rw[hrun];refine hK _ _ ⟨.inl hl,doneM hr2 ?_ _⟩;rw[hd];exact h)
end
theorem row_be {w w':World} {B:Nat} {e:TypeId} {size:Nat} {v:Value} {n:Nat} {xs:List Value} (h:w.ownsRow B e size v n xs) (hb:Below w.heap.size w w'):w'.ownsRow B e size v n xs:=row_heap h (fun k hk=>hb.block k (h.lt k hk).2)
theorem row_al {w:World} {B:Nat} {e:TypeId} {size:Nat} {v:Value} {n:Nat} {xs:List Value} (h:w.ownsRow B e size v n xs) (o:Obj):(w.alloc o).ownsRow B e size v n xs:=row_be h ((Below.refl _ _).alloc (Nat.le_refl _) o)
theorem bel_alloc {w w':World} (h:Below w.heap.size w w') (o:Obj):Below w.heap.size w (w'.alloc o):=h.alloc h.size o
theorem bel_drew {w w':World} (h:Below w.heap.size w w'):Below w.heap.size w w'.drew:=h.drew
theorem bel_set {w w':World} (h:Below w.heap.size w w') {p:Addr} (hp:w.heap.size≤p.block) (v:Value):Below w.heap.size w (w'.setCell p v):=h.setCell hp v
open Go.RowKit
attribute [local go_sem] store_float
theorem lreg1_of (b:Nat) (mk fr tq man maq mrg mpt mpr mco:Int) (W:World) (r:SReg) (h:Blk W b #[mk,fr,tq,man,maq,mrg,mpt,mpr,mco]):Calls Tryz.prog 240 #[.agg #[r.n,r.p,r.seat.p,r.seat.d,r.seat.s,r.seat.h],.pointer (some ⟨b,0,none⟩)] W (Makes (.bool (decide (r.n=fr∧r.p=mpt))) W):=by
 obtain⟨rn,rp,⟨sp,sd,ss,sh⟩⟩:=r;dsimp only;have hlt:=h.lt;have q:=h.cell;have c1:W.cell? ⟨b,1,none⟩=some (.int .i64 fr):=q 1;have c6:W.cell? ⟨b,6,none⟩=some (.int .i64 mpt):=q 6;have hne:¬W.heap.size=b:=by omega
 clear q h;by_cases h1:rn=fr
 · have e1:(rn==fr)=true:=by simpa using h1
   by_cases h2:rp=mpt
   · have e2:(rp==mpt)=true:=by simpa using h2
     rw[decide_eq_true ⟨h1,h2⟩];clear h1 h2;go_enter Tryz.func240,Tryz.ntmps240;go_wp2_with fail;go_ret;exact⟨rfl,by go_grown⟩
   · have e2:(rp==mpt)=false:=by simpa using h2
     rw[decide_eq_false (fun x=>h2 x.2)];clear h1 h2;go_enter Tryz.func240,Tryz.ntmps240;go_wp2_with fail;go_ret;exact⟨rfl,by go_grown⟩
 · have e1:(rn==fr)=false:=by simpa using h1
   rw[decide_eq_false (fun x=>h1 x.1)];clear h1;go_enter Tryz.func240,Tryz.ntmps240;go_wp2_with fail;go_ret;exact⟨rfl,by go_grown⟩
theorem indexR_lreg (b : Nat) (B : Nat) (l : List SReg) (q : SReg → Bool) (v : Value) (w : World) (hrow : w.ownsRow B 55 6 v l.length (regsL l)) (hl : l.length ≤ 1000)
    (hp:∀(W:World) (r:SReg),Below w.heap.size w W→Calls Tryz.prog 240 #[.agg #[r.n,r.p,r.seat.p,r.seat.d,r.seat.s,r.seat.h],.pointer (some ⟨b,0,none⟩)] W (Makes (.bool (q r)) W)):
    Calls Tryz.prog 239 #[v,.func (.func 240) #[] #[.pointer (some ⟨b,0,none⟩)]] w (Makes (.int .i64 (oix (l.findIdx? q))) w):=by
 obtain⟨a,cap,rfl,_,hr⟩:=reg_row hrow;have HR:=qq hr;have HP:=qq hp;clear hr hp hrow;obtain⟨n,hn⟩:∃n,n=l.length:=⟨_,rfl⟩
 rw[←hn] at hl HR⊢;have HN:=qq hn;clear hn;go_enter Tryz.func239,Tryz.ntmps239;go_wp2_with fail;go_loopw [8] (fun i wr=>∃k:Nat,k≤n∧i=.int .i64 (k:Nat)∧Hid (∀(j:Nat) (h:j<l.length),j<k→q l[j]=false)∧Below w.heap.size w wr) (fun i _=>n - (intOf i).toNat)
 case atStart=>exact⟨0,by omega,by go_num,qq (fun j _ h=>absurd h (by omega)),Below.refl _ _⟩
 case round=>
  obtain⟨k,hk,rfl,HBE,hB⟩:=hrel;by_cases hlt:k<n
  · have hks:k<l.length:=by rw[←HN.out];exact hlt
    obtain⟨g,rfl,hg,hfz,hcell⟩:=HR.out (by omega);obtain⟨r,hrk⟩:∃r,r=l[k]:=⟨_,rfl⟩
    have hat:=(hcell k r (by rw[hrk];exact List.getElem?_eq_getElem hks)).below hB hg;obtain⟨c0,c1,c2,c3,c4,c5⟩:=hat;have hki:(k:Int)<(n:Int):=by omega
    have hk0:(0:Int)≤(k:Int):=by omega
    have hc:=fun W hW=>HP.out W r hW
    obtain⟨t,ht⟩:∃t,t=q r:=⟨_,rfl⟩
    rw[←ht] at hc;rw[hrk] at ht;have HT:=qq ht;have HC:=qq hc;clear ht hc hcell hfz hrk;obtain⟨rn,rp,sp,sd,ss,sh⟩:=r;dsimp only at c0 c1 c2 c3 c4 c5 HC;go_wp2_with fail;refine(HC.out _ (below_then hB (by go_grown))).mono ?_;rintro e w1 ⟨rfl,hb1⟩;have hB1:Below w.heap.size w w1:=below_then hB (below_then (by go_grown) hb1)
    cases t with
    | true=>
     go_wp2_with fail;go_ret;exact⟨by rw[find_hit hks HBE.out HT.out.symm];rfl,hB1⟩
    | false=>
     go_wp2_with fail
     all_goals (go_roundw <;> first | exact ⟨k + 1, by omega, by go_num, qq (fun j h hj => by
         rcases Nat.lt_or_eq_of_le (Nat.le_of_lt_succ hj) with h1 | h1
         · exact HBE.out j h h1
         · subst h1;exact HT.out.symm),hB1⟩ | (simp[intOf];omega))
  · obtain rfl:k=n:=by omega
    go_wp2_with fail;go_ret;exact⟨by rw[find_miss (fun j h=>HBE.out j h (by rw[HN.out];exact h))];rfl,hB⟩
theorem lregister_none (L:SLoc) (S:Sto) (mk fr tq man maq mrg mpt mpr mco:Int) (now:Nat) (ea:Int→Addr) (w:World) (hE:EnvS ea w) (h:StoreAt L S w) (hG:StoGood S) (hn64:F64 now) (hg:lGet S man maq=none):Calls Tryz.prog 161 #[.pointer (some ⟨L.sb,0,none⟩),.agg #[mk,fr,tq,man,maq,mrg,mpt,mpr,mco],flV now] w (ResR ⟨[],[ans ⟨mk,fr,tq,man,maq,mrg,mpt,mpr,mco⟩ 19 5],0⟩ w):=by
 have HF:=qq (fun W hW=>Find_no L S man maq W hW hG hg);have H:=qq h;clear hE h hG hg;go_enter Tryz.func161,Tryz.ntmps161;go_wp2_with fail;refine(HF.out _ (H.out.below (by go_grown))).mono ?_;rintro e w1 ⟨rfl,hb1⟩
 have HM:=qq ((((Blk.fresh w #[mk,fr,tq,man,maq,mrg,mpt,mpr,mco] 81 _ rfl).alloc (.cells #[.slice none 0 0,.slice none 0 0,.int .i64 0] 87)).below hb1).alloc (.cells #[.int .i64 0,.int .i64 0,.int .i64 0,.int .i64 0,.float .f64 0,.int .i64 0,.int .i64 0,.slice none 0 0] 51))
 have HV:=qq (((Blk.fresh (w.alloc (.cells #[mk,fr,tq,man,maq,mrg,mpt,mpr,mco] 81)) #[.slice none 0 0,.slice none 0 0,.int .i64 0] 87 (w.heap.size+1) (by simp)).below hb1).alloc (.cells #[.int .i64 0,.int .i64 0,.int .i64 0,.int .i64 0,.float .f64 0,.int .i64 0,.int .i64 0,.slice none 0 0] 51))
 have HB:=qq ((below_then (show Below w.heap.size w _ by go_grown) hb1).alloc (by have:=hb1.size;simp at this;omega) (.cells #[.int .i64 0,.int .i64 0,.int .i64 0,.int .i64 0,.float .f64 0,.int .i64 0,.int .i64 0,.slice none 0 0] 51));clear hb1;have qm:=HM.out.cell;go_wp2_with fail;refine((lanswer_of ⟨mk,fr,tq,man,maq,mrg,mpt,mpr,mco⟩ 19 5 _)).mono ?_;rintro e w5 ⟨a5,c5,b5,d5,rfl,hR5,hb5⟩
 have B5:Below w.heap.size w w5:=below_then HB.out hb5;have hV5:=HV.out.below hb5;have qv:=hV5.cell;have fv:=hV5.free;have lv:=hV5.lt;have lz:=HV.out.lt;clear qm hV5;go_wp2_with fail
 exact bodyPost_ret (v:=.agg #[.slice a5 0 c5,.slice b5 1 d5,.int .i64 0]) (by simp[results,Tryz.results161,go_sem,qv,fv,lv,Nat.ne_of_lt lv]) rfl ⟨a5,c5,b5,d5,rfl,(hR5.put3 (w.heap.size+1) (by first | omega | (simp;done) | (simp;omega)) _ _ _).mono (by first | omega | (simp;done) | (simp;omega)),by go_grown⟩
theorem lregister_other (L:SLoc) (S:Sto) (mk fr tq man maq mrg mpt mpr mco:Int) (now:Nat) (ea:Int→Addr) (w:World) (hE:EnvS ea w) (h:StoreAt L S w) (hG:StoGood S) (hn64:F64 now) (i:Nat) (a:SAct) (hg:lGet S man maq=some (i,a)) (j:Nat) (r:SReg) (hi:a.regs.findIdx? (fun r=>decide (r.n=fr∧r.p=mpt))=some j) (hr:a.regs[j]? =some r) (hp:r.seat.p≠mpr):Calls Tryz.prog 161 #[.pointer (some ⟨L.sb,0,none⟩),.agg #[mk,fr,tq,man,maq,mrg,mpt,mpr,mco],flV now] w (ResR ⟨[],[ans ⟨mk,fr,tq,man,maq,mrg,mpt,mpr,mco⟩ 19 2],0⟩ w):=by
 have HF:=qq (fun W hW=>Find_yes L S man maq i a W hW hG hg);have H:=qq h;have HE:=qq hE;have hA:=hG.act a (lGet_some hg).2.2.1;have h6:=hA.len;have HIX:=qq (show oix (a.regs.findIdx? (fun r=>decide (r.n=fr∧r.p=mpt)))=(j:Int) by rw[hi];rfl);obtain⟨rn,rp,⟨sp,sd,ss,sh⟩⟩:=r;have HGR:=qq hr;dsimp only at hp;have dp1:(sp !=mpr)=true:=by simpa using hp
 clear hp hi hr;obtain⟨an,aq,oc,dp,ex,pa,de,rs⟩:=a;unfold ActOut at HF;dsimp only[actC] at*;obtain⟨n,hn⟩:∃n,n=rs.length:=⟨_,rfl⟩
 rw[←hn] at HF h6;have HN:=qq hn;clear hE h hG hg hA hn hn64;go_enter Tryz.func161,Tryz.ntmps161;go_wp2_with fail;refine(HF.out _ (H.out.below (by go_grown))).mono ?_;rintro e w1 ⟨v',rfl,ho,hb1⟩;obtain⟨va,vc,rfl,hlen,hrow⟩:=reg_row ho;have B1:Below w.heap.size w w1:=below_then (by go_grown) hb1
 have HM:=qq ((((Blk.fresh w #[mk,fr,tq,man,maq,mrg,mpt,mpr,mco] 81 _ rfl).alloc (.cells #[.slice none 0 0,.slice none 0 0,.int .i64 0] 87)).below hb1).alloc (.cells #[an,aq,oc,dp,.float .f64 ex,pa,de,.slice va n vc] 51))
 have HV:=qq (((Blk.fresh (w.alloc (.cells #[mk,fr,tq,man,maq,mrg,mpt,mpr,mco] 81)) #[.slice none 0 0,.slice none 0 0,.int .i64 0] 87 (w.heap.size+1) (by simp)).below hb1).alloc (.cells #[an,aq,oc,dp,.float .f64 ex,pa,de,.slice va n vc] 51));have HA:=qq (Blk.fresh w1 #[an,aq,oc,dp,.float .f64 ex,pa,de,.slice va n vc] 51 _ rfl);have HRW:=qq hrow
 have HO:=qq (show(w1.alloc (.cells #[an,aq,oc,dp,.float .f64 ex,pa,de,.slice va n vc] 51)).ownsRow 0 55 6 (.slice va rs.length vc) rs.length (regsL rs) by rw[←HN.out];exact row_base (ho.alloc _) (Nat.zero_le _));have hz1:w.heap.size+1<w1.heap.size:=by have:=hb1.size;simp at this;omega
 have hIx:=indexR_lreg w.heap.size 0 rs (fun r=>decide (r.n=fr∧r.p=mpt)) (.slice va rs.length vc) _ HO.out (by rw[←HN.out];omega) (fun W r hW=>lreg1_of w.heap.size mk fr tq man maq mrg mpt mpr mco W r (HM.out.below hW));rw[HIX.out,←HN.out] at hIx;have HIx:=qq hIx;clear hb1 ho hlen hrow hIx;go_wp2_with fail;refine HIx.out.mono ?_;rintro e w2 ⟨rfl,hb2⟩
 replace HM:=qq (HM.out.below hb2);replace HV:=qq (HV.out.below hb2);replace HA:=qq (HA.out.below hb2);have B2:Below w.heap.size w w2:=below_then (B1.alloc B1.size _) hb2;have hb12:Below w1.heap.size w1 w2:=below_then (by go_grown) hb2;have HB:=qq B2;clear hb2 HIx;have hjl:j<n:=by rw[HN.out];exact(List.getElem?_eq_some_iff.1 HGR.out).1
 obtain⟨g,rfl,hgl,hfz,hcell⟩:=HRW.out (by omega);have hat:=(hcell j ⟨rn,rp,⟨sp,sd,ss,sh⟩⟩ HGR.out).below hb12 hgl;obtain⟨c0,c1,c2,c3,c4,c5⟩:=hat;dsimp only at c0 c1 c2 c3 c4 c5;have hj0:(0:Int)≤(j:Int):=by omega
 have hj1:(j:Int)<(n:Int):=by omega
 have d0:decide ((0:Int)≤(j:Int))=true:=decide_eq_true hj0;have qm:=HM.out.cell;have qa:=HA.out.cell;have la:=HA.out.lt;have lm:=HM.out.lt;go_wp2_with fail;go_quiet (fail);have HM:=qq (HM.out.below (Go.Joins.below_draws w2.heap.size w2 nq));have HV:=qq (HV.out.below (Go.Joins.below_draws w2.heap.size w2 nq));have HB:=qq (below_then HB.out (Go.Joins.below_draws w2.heap.size w2 nq))
 clear qm qa c0 c1 c2 c3 c4 c5;have qm:=HM.out.cell;go_wp2_with fail;refine((lanswer_of ⟨mk,fr,tq,man,maq,mrg,mpt,mpr,mco⟩ 19 2 _)).mono ?_;rintro e w5 ⟨a5,c5,b5,d5,rfl,hR5,hb5⟩;have B5:Below w.heap.size w w5:=below_then HB.out hb5;have hV5:=HV.out.below hb5;have qv:=hV5.cell;have fv:=hV5.free;have lv:=hV5.lt;have lz:=HV.out.lt;clear qm hV5;go_wp2_with fail
 exact bodyPost_ret (v:=.agg #[.slice a5 0 c5,.slice b5 1 d5,.int .i64 0]) (by simp[results,Tryz.results161,go_sem,qv,fv,lv,Nat.ne_of_lt lv]) rfl ⟨a5,c5,b5,d5,rfl,(hR5.put3 (w.heap.size+1) (by first | omega | (simp;done) | (simp;omega)) _ _ _).mono (by first | omega | (simp;done) | (simp;omega)),by go_grown⟩
theorem lregister_back (L:SLoc) (S:Sto) (mk fr tq man maq mrg mpt mpr mco:Int) (now:Nat) (ea:Int→Addr) (w:World) (hE:EnvS ea w) (h:StoreAt L S w) (hG:StoGood S) (hn64:F64 now) (i:Nat) (a:SAct) (hg:lGet S man maq=some (i,a)) (j:Nat) (r:SReg) (hi:a.regs.findIdx? (fun r=>decide (r.n=fr∧r.p=mpt))=some j) (hr:a.regs[j]? =some r) (hp:r.seat.p=mpr):Calls Tryz.prog 161 #[.pointer (some ⟨L.sb,0,none⟩),.agg #[mk,fr,tq,man,maq,mrg,mpt,mpr,mco],flV now] w (ResR ⟨[],[lBack ⟨mk,fr,tq,man,maq,mrg,mpt,mpr,mco⟩ (j:Int) mpr],0⟩ w):=by
 have HF:=qq (fun W hW=>Find_yes L S man maq i a W hW hG hg);have H:=qq h;have HE:=qq hE;have hA:=hG.act a (lGet_some hg).2.2.1;have h6:=hA.len;have HIX:=qq (show oix (a.regs.findIdx? (fun r=>decide (r.n=fr∧r.p=mpt)))=(j:Int) by rw[hi];rfl);obtain⟨rn,rp,⟨sp,sd,ss,sh⟩⟩:=r;have HGR:=qq hr;dsimp only at hp;have dp1:(sp !=mpr)=false:=by simpa using hp
 clear hp hi hr;obtain⟨an,aq,oc,dp,ex,pa,de,rs⟩:=a;unfold ActOut at HF;dsimp only[actC] at*;obtain⟨n,hn⟩:∃n,n=rs.length:=⟨_,rfl⟩
 rw[←hn] at HF h6;have HN:=qq hn;clear hE h hG hg hA hn hn64;go_enter Tryz.func161,Tryz.ntmps161;go_wp2_with fail;refine(HF.out _ (H.out.below (by go_grown))).mono ?_;rintro e w1 ⟨v',rfl,ho,hb1⟩;obtain⟨va,vc,rfl,hlen,hrow⟩:=reg_row ho;have B1:Below w.heap.size w w1:=below_then (by go_grown) hb1
 have HM:=qq ((((Blk.fresh w #[mk,fr,tq,man,maq,mrg,mpt,mpr,mco] 81 _ rfl).alloc (.cells #[.slice none 0 0,.slice none 0 0,.int .i64 0] 87)).below hb1).alloc (.cells #[an,aq,oc,dp,.float .f64 ex,pa,de,.slice va n vc] 51))
 have HV:=qq (((Blk.fresh (w.alloc (.cells #[mk,fr,tq,man,maq,mrg,mpt,mpr,mco] 81)) #[.slice none 0 0,.slice none 0 0,.int .i64 0] 87 (w.heap.size+1) (by simp)).below hb1).alloc (.cells #[an,aq,oc,dp,.float .f64 ex,pa,de,.slice va n vc] 51));have HA:=qq (Blk.fresh w1 #[an,aq,oc,dp,.float .f64 ex,pa,de,.slice va n vc] 51 _ rfl);have HRW:=qq hrow
 have HO:=qq (show(w1.alloc (.cells #[an,aq,oc,dp,.float .f64 ex,pa,de,.slice va n vc] 51)).ownsRow 0 55 6 (.slice va rs.length vc) rs.length (regsL rs) by rw[←HN.out];exact row_base (ho.alloc _) (Nat.zero_le _));have hz1:w.heap.size+1<w1.heap.size:=by have:=hb1.size;simp at this;omega
 have hIx:=indexR_lreg w.heap.size 0 rs (fun r=>decide (r.n=fr∧r.p=mpt)) (.slice va rs.length vc) _ HO.out (by rw[←HN.out];omega) (fun W r hW=>lreg1_of w.heap.size mk fr tq man maq mrg mpt mpr mco W r (HM.out.below hW));rw[HIX.out,←HN.out] at hIx;have HIx:=qq hIx;clear hb1 ho hlen hrow hIx;go_wp2_with fail;refine HIx.out.mono ?_;rintro e w2 ⟨rfl,hb2⟩
 replace HM:=qq (HM.out.below hb2);replace HV:=qq (HV.out.below hb2);replace HA:=qq (HA.out.below hb2);have B2:Below w.heap.size w w2:=below_then (B1.alloc B1.size _) hb2;have hb12:Below w1.heap.size w1 w2:=below_then (by go_grown) hb2;have HB:=qq B2;clear hb2 HIx;have hjl:j<n:=by rw[HN.out];exact(List.getElem?_eq_some_iff.1 HGR.out).1
 obtain⟨g,rfl,hgl,hfz,hcell⟩:=HRW.out (by omega);have hat:=(hcell j ⟨rn,rp,⟨sp,sd,ss,sh⟩⟩ HGR.out).below hb12 hgl;obtain⟨c0,c1,c2,c3,c4,c5⟩:=hat;dsimp only at c0 c1 c2 c3 c4 c5;have hj0:(0:Int)≤(j:Int):=by omega
 have hj1:(j:Int)<(n:Int):=by omega
 have d0:decide ((0:Int)≤(j:Int))=true:=decide_eq_true hj0;have qm:=HM.out.cell;have qa:=HA.out.cell;have la:=HA.out.lt;have lm:=HM.out.lt;go_wp2_with fail;go_quiet (fail);have HM:=qq (HM.out.below (Go.Joins.below_draws w2.heap.size w2 nq));have HV:=qq (HV.out.below (Go.Joins.below_draws w2.heap.size w2 nq));have HB:=qq (below_then HB.out (Go.Joins.below_draws w2.heap.size w2 nq))
 clear qm qa c0 c1 c2 c3 c4 c5;have qm:=HM.out.cell;go_wp2_with fail;refine(lback_of ⟨mk,fr,tq,man,maq,mrg,mpt,mpr,mco⟩ (j:Int) mpr _).mono ?_;rintro e w5 ⟨rfl,hb5⟩;dsimp only[lBack,msgV,msgA];have B5:Below w.heap.size w w5:=below_then HB.out hb5;have hV5:=HV.out.below hb5;have qv:=hV5.cell;have fv:=hV5.free;have lv:=hV5.lt;have lw:w.heap.size<w5.heap.size:=by omega
 clear qm hV5 hb5;go_wp2_with fail
 refine bodyPost_ret (v:=.agg #[.slice none 0 0,.slice (some ⟨w5.heap.size,0,none⟩) 1 1,.int .i64 0]) ?_ rfl ⟨none,0,some ⟨w5.heap.size,0,none⟩,1,rfl,⟨read_nil,?_,no_block,one_block B5.size⟩,?_⟩<;>first | (simp[results,Tryz.results161,go_sem,qv,fv,lv,Nat.ne_of_lt lv,lw];done) | (refine read_mone ?_;(repeat' first | exact Blk.fresh _ _ _ _ rfl | exact Blk.fresh _ _ _ _ (by simp) | refine Blk.alloc ?_ _ | refine Blk.drew ?_ | refine Blk.other ?_ ?_ _ | (simp;done) | omega | (dsimp only;omega));done) | (go_grown;done)
theorem lregister_shut (L:SLoc) (S:Sto) (mk fr tq man maq mrg mpt mpr mco:Int) (now:Nat) (ea:Int→Addr) (w:World) (hE:EnvS ea w) (h:StoreAt L S w) (hG:StoGood S) (hn64:F64 now) (i:Nat) (a:SAct) (hg:lGet S man maq=some (i,a)) (hi:a.regs.findIdx? (fun r=>decide (r.n=fr∧r.p=mpt))=none) (ht:lTakes S a now=false):Calls Tryz.prog 161 #[.pointer (some ⟨L.sb,0,none⟩),.agg #[mk,fr,tq,man,maq,mrg,mpt,mpr,mco],flV now] w (ResR ⟨[],[ans ⟨mk,fr,tq,man,maq,mrg,mpt,mpr,mco⟩ 19 4],0⟩ w):=by
 have HF:=qq (fun W hW=>Find_yes L S man maq i a W hW hG hg);have H:=qq h;have HE:=qq hE;have hA:=hG.act a (lGet_some hg).2.2.1;have h6:=hA.len;have HIX:=qq (show oix (a.regs.findIdx? (fun r=>decide (r.n=fr∧r.p=mpt)))= -1 by rw[hi];rfl);have hex:F64 a.ex:=by have:=(ctxOk_ex hA.ctx).1;unfold fdelay at this;unfold F64;simp at this;omega
 have HTk:=qq (fun va vc W h1 h2=>(show Calls Tryz.prog 167 #[.pointer (some ⟨L.sb,0,none⟩),.agg (actC a (.slice va a.regs.length vc)),flV now] W (Makes (.bool false) W) by have:=ltakes_of L S a va vc now ea W h1 h2 hG hex hn64 ⟨hA.pa.1,by have:=hA.pa.2;have:=hG.parts;omega⟩;rw[ht] at this;exact this));clear hi ht hex;obtain⟨an,aq,oc,dp,ex,pa,de,rs⟩:=a;unfold ActOut at HF;dsimp only[actC] at*
 obtain⟨n,hn⟩:∃n,n=rs.length:=⟨_,rfl⟩
 rw[←hn] at HF h6 HTk;have HN:=qq hn;clear hE h hG hg hA hn hn64;go_enter Tryz.func161,Tryz.ntmps161;go_wp2_with fail;refine(HF.out _ (H.out.below (by go_grown))).mono ?_;rintro e w1 ⟨v',rfl,ho,hb1⟩;obtain⟨va,vc,rfl,hlen,hrow⟩:=reg_row ho;have B1:Below w.heap.size w w1:=below_then (by go_grown) hb1
 have HM:=qq ((((Blk.fresh w #[mk,fr,tq,man,maq,mrg,mpt,mpr,mco] 81 _ rfl).alloc (.cells #[.slice none 0 0,.slice none 0 0,.int .i64 0] 87)).below hb1).alloc (.cells #[an,aq,oc,dp,.float .f64 ex,pa,de,.slice va n vc] 51))
 have HV:=qq (((Blk.fresh (w.alloc (.cells #[mk,fr,tq,man,maq,mrg,mpt,mpr,mco] 81)) #[.slice none 0 0,.slice none 0 0,.int .i64 0] 87 (w.heap.size+1) (by simp)).below hb1).alloc (.cells #[an,aq,oc,dp,.float .f64 ex,pa,de,.slice va n vc] 51));have HA:=qq (Blk.fresh w1 #[an,aq,oc,dp,.float .f64 ex,pa,de,.slice va n vc] 51 _ rfl);have HRW:=qq hrow
 have HO:=qq (show(w1.alloc (.cells #[an,aq,oc,dp,.float .f64 ex,pa,de,.slice va n vc] 51)).ownsRow 0 55 6 (.slice va rs.length vc) rs.length (regsL rs) by rw[←HN.out];exact row_base (ho.alloc _) (Nat.zero_le _));have hz1:w.heap.size+1<w1.heap.size:=by have:=hb1.size;simp at this;omega
 have hIx:=indexR_lreg w.heap.size 0 rs (fun r=>decide (r.n=fr∧r.p=mpt)) (.slice va rs.length vc) _ HO.out (by rw[←HN.out];omega) (fun W r hW=>lreg1_of w.heap.size mk fr tq man maq mrg mpt mpr mco W r (HM.out.below hW));rw[HIX.out,←HN.out] at hIx;have HIx:=qq hIx;clear hb1 ho hlen hrow hIx;go_wp2_with fail;refine HIx.out.mono ?_;rintro e w2 ⟨rfl,hb2⟩
 replace HM:=qq (HM.out.below hb2);replace HV:=qq (HV.out.below hb2);replace HA:=qq (HA.out.below hb2);have B2:Below w.heap.size w w2:=below_then (B1.alloc B1.size _) hb2;have hb12:Below w1.heap.size w1 w2:=below_then (by go_grown) hb2;have HB:=qq B2;clear hb2 HIx;have d0:decide ((0:Int)≤ -1)=false:=by decide
 have qm:=HM.out.cell;have qa:=HA.out.cell;have la:=HA.out.lt;have lm:=HM.out.lt;go_wp2_with fail;go_quiet (fail);generalize hw3:w2.drewN nq=w3 at*;have hb3:Below w2.heap.size w2 w3:=by rw[←hw3];exact Go.Joins.below_draws w2.heap.size w2 nq
 have HM:=qq (HM.out.below hb3);have HV:=qq (HV.out.below hb3);have HA:=qq (HA.out.below hb3);have HB:=qq (below_then HB.out hb3);clear qm qa hw3 hb3;have qa:=HA.out.cell;go_wp2_with fail;clear qa;refine(HTk.out _ _ _ (HE.out.below HB.out) (H.out.below HB.out)).mono ?_;rintro e w4 ⟨rfl,hb4⟩
 have HM:=qq (HM.out.below hb4);have HV:=qq (HV.out.below hb4);have HA:=qq (HA.out.below hb4);have HB:=qq (below_then HB.out hb4);clear hb4;have qm:=HM.out.cell;go_wp2_with fail;refine((lanswer_of ⟨mk,fr,tq,man,maq,mrg,mpt,mpr,mco⟩ 19 4 _)).mono ?_;rintro e w5 ⟨a5,c5,b5,d5,rfl,hR5,hb5⟩;have B5:Below w.heap.size w w5:=below_then HB.out hb5;have hV5:=HV.out.below hb5
 have qv:=hV5.cell;have fv:=hV5.free;have lv:=hV5.lt;have lz:=HV.out.lt;clear qm hV5;go_wp2_with fail
 exact bodyPost_ret (v:=.agg #[.slice a5 0 c5,.slice b5 1 d5,.int .i64 0]) (by simp[results,Tryz.results161,go_sem,qv,fv,lv,Nat.ne_of_lt lv]) rfl ⟨a5,c5,b5,d5,rfl,(hR5.put3 (w.heap.size+1) (by first | omega | (simp;done) | (simp;omega)) _ _ _).mono (by first | omega | (simp;done) | (simp;omega)),by go_grown⟩
end Go.Proofs.YtlkajejbfojkeaaGreatDoor
