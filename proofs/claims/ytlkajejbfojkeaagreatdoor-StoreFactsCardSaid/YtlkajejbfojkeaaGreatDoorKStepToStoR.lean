/- Step, StepS, IdsA, StoP, StoG, FlC, FacA, FacE, FbP, StoM, StoA, StoR -/
import Derived.Deep.RegionLaw
import Derived.Shelf.Abstract
import Derived.Test.YtlkajejbfojkeaaGreatDoorKTabPlainToTrcP
import Derived.Recover
import Derived.Defers
import Derived.Shelf.Lay
import Derived.Shelf.Strconv.Itoa3
import Derived.Deep.RegionWith
import Derived.Maps.AppendAt
import Derived.Laws.Tables
set_option linter.unusedSimpArgs false
set_option linter.unusedVariables false
set_option maxRecDepth 100000
set_option maxHeartbeats 16000000
namespace Go.Proofs.YtlkajejbfojkeaaGreatDoor
open Go.RowKit Go.Shelf
theorem step_call {P : Program} {ops : Array Oper} {o : Oper} {a : Act} {w : World} {K : Act → World → Prop} {Q : Exit → Act → World → Prop} {E : Prop}
    (f:Nat) (argsO:Array Operand) (ts:Array TypeId) (args:List Value)
    (hop:o.op=Op.call {callee:=Callee.value (Operand.func f),args:=argsO,argTypes:=ts}) (he:Enters P f)
    (hw:Region.wanted o (yielded ops a.tmps)=true) (hargs:argsO.toList.map a.eval=args)
    (h:Calls P f args.toArray w (fun e w'=>∃v,e=.returned v∧K (a.put o.dst v) w')):
    if Region.wanted o (yielded ops a.tmps)=true then Oper.wp P o a w K Q else E:=by
 rw[if_pos hw];have hx:argsO.map a.eval=args.toArray:=Array.toList_inj.1 (by rw[Array.toList_map,hargs]);unfold Oper.wp;have hrun:(execOp a.eval o).run P w=.ok (.enter f args.toArray) w:=by
  have h1:=he args.toArray w;simp only[execOp,hop,resolve,Act.eval];simp[Deferred.ofValue,invoke];have hx2:(Array.map (fun x=>match x with
    | Operand.tmp t=>a.tmps.getD t undef
    | Operand.const v=>v
    | Operand.global g=>Value.pointer (some ⟨g,0,none⟩)
    | Operand.func f=>Value.func (.func f) #[] #[]) argsO)=args.toArray:=hx
  first
   | rw[hx2];exact h1
   | (rw[hx];exact h1)
 rw[hrun,Oper.upon_enter];refine h.mono ?_;rintro e w' ⟨v,rfl,hk⟩;exact hk
theorem wpAnyH_narrow {P : Program} {md : Region.Mode} {ops : Array Oper} {Q : Exit → Act → World → Prop} {S S' : World → Prop} (hS : ∀ w, S' w → S w) :
    ∀(fuel:Nat) (listed:Array Bool) (a:Act) (w:World),wpAnyH P md ops Q S' fuel listed a w→wpAnyH P md ops Q S fuel listed a w
 | 0,_,_,_,h=>h
 | fuel+1,_,_,_,h=>⟨h.1,fun i hi=>wpOp_mono (fun a' w' h'=>⟨hS _ h'.1,wpAnyH_narrow hS fuel _ a' w' h'.2⟩) (h.2 i hi)⟩
theorem wpAnyH_call {P : Program} {md : Region.Mode} {ops : Array Oper} {Q : Exit → Act → World → Prop} {S : World → Prop} {fuel : Nat} {listed : Array Bool} {a : Act} {w : World} {oi : Oper} {d : Option Tmp}
    (i:Nat) (f:Nat) (argsO:Array Operand) (ts:Array TypeId) (args:List Value) (hi:ops[i]? =some oi) (hd:oi.dst=d) (hr:Region.ready md ops listed=[i])
    (hop:oi.op=Op.call {callee:=Callee.value (Operand.func f),args:=argsO,argTypes:=ts}) (he:Enters P f)
    (hw:Region.wanted oi (yielded ops a.tmps)=true) (hargs:argsO.toList.map a.eval=args)
    (h:Calls P f args.toArray w (fun e w'=>∃v,e=.returned v∧∃S':World→Prop,(∀w,S' w→S w)∧S' w'∧(S' w'→wpAnyH P md ops Q S' fuel (listed.setIfInBounds i true) (a.put d v) w'))):
    wpAnyH P md ops Q S (fuel+1) listed a w:=by
 refine wpAnyH_all hr (by simp) (fun j hj=> ?_);obtain rfl:j=i:=by simpa using hj
 subst hd;refine wpOp_step hi (fun K' hK=> ?_);refine step_call f argsO ts args hop he hw hargs (h.mono ?_);rintro e w' ⟨v,rfl,S',h1,h2,h3⟩;exact⟨v,rfl,hK _ _ ⟨h1 _ h2,wpAnyH_narrow h1 _ _ _ _ (h3 h2)⟩⟩
theorem wpOp_call {P : Program} {ops : Array Oper} {Q : Exit → Act → World → Prop} {a : Act} {w : World} {oi : Oper} {d : Option Tmp} {N : Act → World → Prop}
    (i:Nat) (f:Nat) (argsO:Array Operand) (ts:Array TypeId) (args:List Value) (hi:ops[i]? =some oi) (hd:oi.dst=d)
    (hop:oi.op=Op.call {callee:=Callee.value (Operand.func f),args:=argsO,argTypes:=ts}) (he:Enters P f)
    (hw:Region.wanted oi (yielded ops a.tmps)=true) (hargs:argsO.toList.map a.eval=args)
    (h:Calls P f args.toArray w (fun e w'=>∃v,e=.returned v∧N (a.put d v) w')):wpOp P ops Q i N a w:=by
 subst hd;refine wpOp_step hi (fun K' hK=> ?_);refine step_call f argsO ts args hop he hw hargs (h.mono ?_);rintro e w' ⟨v,rfl,h3⟩;exact⟨v,rfl,hK _ _ h3⟩
theorem wpAnyH_takeAt {P : Program} {md : Region.Mode} {ops : Array Oper} {Q : Exit → Act → World → Prop} {S : World → Prop} {fuel : Nat} {listed : Array Bool} {a : Act} {w : World} {oi : Oper} {d : Option Tmp} {v : Value}
    (i:Nat) (hi:ops[i]? =some oi) (hd:oi.dst=d)
    (hs:Region.noSelect ops=true) (hf:Region.free md ops listed i=true) (hr:(Region.ready md ops listed).contains i=true)
    (hQ:∀c a w,Q (.panic c) (a.put oi.dst v) w→Q (.panic c) a w) (hS:S w) (hw:Region.wanted oi (yielded ops a.tmps)=true) (hy:∀w,S w→(execOp a.eval oi).run P w=.ok (.value v) w)
    (h:wpAnyH P md ops Q S fuel (listed.setIfInBounds i true) (a.put d v) w):wpAnyH P md ops Q S (fuel+1) listed a w:=by
 subst hd;exact wpAnyH_take hi hs hf hr hQ (.inl ⟨hw,hy⟩) hS h
theorem step_die {P : Program} {ops : Array Oper} {o : Oper} {a : Act} {w : World} {K : Act → World → Prop} {Q : Exit → Act → World → Prop} {E : Prop} (c : List PanicEntry)
    (f:Nat) (argsO:Array Operand) (ts:Array TypeId) (args:List Value)
    (hop:o.op=Op.call {callee:=Callee.value (Operand.func f),args:=argsO,argTypes:=ts}) (he:Enters P f)
    (hw:Region.wanted o (yielded ops a.tmps)=true) (hargs:argsO.toList.map a.eval=args)
    (h:Calls P f args.toArray w (fun e w'=>e=.panicked c∧Q (.panic c) a w')):
    if Region.wanted o (yielded ops a.tmps)=true then Oper.wp P o a w K Q else E:=by
 rw[if_pos hw];have hx:argsO.map a.eval=args.toArray:=Array.toList_inj.1 (by rw[Array.toList_map,hargs]);unfold Oper.wp;have hrun:(execOp a.eval o).run P w=.ok (.enter f args.toArray) w:=by
  have h1:=he args.toArray w;simp only[execOp,hop,resolve,Act.eval];simp[Deferred.ofValue,invoke];have hx2:(Array.map (fun x=>match x with
    | Operand.tmp t=>a.tmps.getD t undef
    | Operand.const v=>v
    | Operand.global g=>Value.pointer (some ⟨g,0,none⟩)
    | Operand.func f=>Value.func (.func f) #[] #[]) argsO)=args.toArray:=hx
  first
   | rw[hx2];exact h1
   | (rw[hx];exact h1)
 rw[hrun,Oper.upon_enter];refine h.mono ?_;rintro e w' ⟨rfl,hk⟩;exact hk
theorem wpAnyH_die {P : Program} {md : Region.Mode} {ops : Array Oper} {Q : Exit → Act → World → Prop} {S : World → Prop} {fuel : Nat} {listed : Array Bool} {a : Act} {w : World} {oi : Oper} (c : List PanicEntry)
    (i:Nat) (f:Nat) (argsO:Array Operand) (ts:Array TypeId) (args:List Value) (hi:ops[i]? =some oi) (hr:Region.ready md ops listed=[i])
    (hop:oi.op=Op.call {callee:=Callee.value (Operand.func f),args:=argsO,argTypes:=ts}) (he:Enters P f)
    (hw:Region.wanted oi (yielded ops a.tmps)=true) (hargs:argsO.toList.map a.eval=args)
    (h:Calls P f args.toArray w (fun e w'=>e=.panicked c∧Q (.panic c) a w')):
    wpAnyH P md ops Q S (fuel+1) listed a w:=by
 refine wpAnyH_all hr (by simp) (fun j hj=> ?_);obtain rfl:j=i:=by simpa using hj
 refine wpOp_step hi (fun K' hK=> ?_);exact step_die c f argsO ts args hop he hw hargs h
theorem wpAnyH_skipAt {P : Program} {md : Region.Mode} {ops : Array Oper} {Q : Exit → Act → World → Prop} {S : World → Prop} {fuel : Nat} {listed : Array Bool} {a : Act} {w : World} {oi : Oper} {d : Option Tmp}
    (i:Nat) (hi:ops[i]? =some oi) (hd:oi.dst=d)
    (hs:Region.noSelect ops=true) (hf:Region.free md ops listed i=true) (hr:(Region.ready md ops listed).contains i=true)
    (hQ:∀c a w,Q (.panic c) (a.put oi.dst undef) w→Q (.panic c) a w) (hS:S w) (hw:Region.wanted oi (yielded ops a.tmps)=false)
    (h:wpAnyH P md ops Q S fuel (listed.setIfInBounds i true) (a.put d undef) w):wpAnyH P md ops Q S (fuel+1) listed a w:=by
 subst hd;exact wpAnyH_take hi hs hf hr hQ (.inr ⟨hw,rfl⟩) hS h
theorem wpOp_alone {P : Program} {ops : Array Oper} {Q : Exit → Act → World → Prop} {a : Act} {w : World} {oi : Oper} {d : Option Tmp} {N : Act → World → Prop}
    (i:Nat) (v:Value) (w':World) (hi:ops[i]? =some oi) (hd:oi.dst=d)
    (hw:Region.wanted oi (yielded ops a.tmps)=true) (hrun:(execOp a.eval oi).run P w=.ok (.value v) w') (h:N (a.put d v) w'):wpOp P ops Q i N a w:=by
 subst hd;refine wpOp_step hi (fun K' hK=> ?_);rw[if_pos hw];unfold Oper.wp;rw[hrun];exact hK _ _ h
theorem takeT {P : Program} {md : Region.Mode} {ops : Array Oper} {Q : Exit → Act → World → Prop} {S : World → Prop} {fuel : Nat} {listed : Array Bool} {a : Act} {w : World} {oi : Oper} {d : Option Tmp} {v : Value}
    (i:Nat) (hS:S w) (hy:∀w,S w→(execOp a.eval oi).run P w=.ok (.value v) w) (h:wpAnyH P md ops Q S fuel (listed.setIfInBounds i true) (a.put d v) w)
    (hi:ops[i]? =some oi:=by rfl) (hd:oi.dst=d:=by rfl)
    (hs:Region.noSelect ops=true:=by kernel_rfl) (hf:Region.free md ops listed i=true:=by kernel_rfl) (hr:(Region.ready md ops listed).contains i=true:=by kernel_rfl)
    (hQ:∀c a w,Q (.panic c) (a.put oi.dst v) w→Q (.panic c) a w:=by exact fun _ _ _ h=>h) (hw:Region.wanted oi (yielded ops a.tmps)=true:=by rfl):wpAnyH P md ops Q S (fuel+1) listed a w:=
  wpAnyH_takeAt i hi hd hs hf hr hQ hS hw hy h
theorem skipT {P : Program} {md : Region.Mode} {ops : Array Oper} {Q : Exit → Act → World → Prop} {S : World → Prop} {fuel : Nat} {listed : Array Bool} {a : Act} {w : World} {oi : Oper} {d : Option Tmp}
    (i:Nat) (hS:S w) (h:wpAnyH P md ops Q S fuel (listed.setIfInBounds i true) (a.put d undef) w)
    (hi:ops[i]? =some oi:=by rfl) (hd:oi.dst=d:=by rfl)
    (hs:Region.noSelect ops=true:=by kernel_rfl) (hf:Region.free md ops listed i=true:=by kernel_rfl) (hr:(Region.ready md ops listed).contains i=true:=by kernel_rfl)
    (hQ:∀c a w,Q (.panic c) (a.put oi.dst undef) w→Q (.panic c) a w:=by exact fun _ _ _ h=>h) (hw:Region.wanted oi (yielded ops a.tmps)=false:=by rfl):wpAnyH P md ops Q S (fuel+1) listed a w:=
  wpAnyH_skipAt i hi hd hs hf hr hQ hS hw h
theorem takeU {P : Program} {md : Region.Mode} {ops : Array Oper} {Q : Exit → Act → World → Prop} {S : World → Prop} {fuel : Nat} {listed : Array Bool} {a : Act} {w : World} {oi : Oper} {d : Option Tmp} {v : Value}
    (i:Nat) (hi:ops[i]? =some oi) (hd:oi.dst=d) (hS:S w) (hy:∀w,S w→(execOp a.eval oi).run P w=.ok (.value v) w) (h:wpAnyH P md ops Q S fuel (listed.setIfInBounds i true) (a.put d v) w)
    (hs:Region.noSelect ops=true:=by kernel_rfl) (hf:Region.free md ops listed i=true:=by kernel_rfl) (hr:(Region.ready md ops listed).contains i=true:=by kernel_rfl)
    (hQ:∀c a w,Q (.panic c) (a.put oi.dst v) w→Q (.panic c) a w:=by exact fun _ _ _ h=>h) (hw:Region.wanted oi (yielded ops a.tmps)=true:=by rfl):wpAnyH P md ops Q S (fuel+1) listed a w:=
  wpAnyH_takeAt i hi hd hs hf hr hQ hS hw hy h
theorem puts : (∀ (a : Act) (d : Tmp) (v : Value), a.put (some d) v = { a with tmps := a.tmps.setIfInBounds d v }) ∧ (∀ (a : Act) (v : Value), a.put none v = a)
    ∧(∀(l:List Value) (i:Nat) (v:Value),l.toArray.setIfInBounds i v=(l.set i v).toArray)∧(∀(x v:Value) (l:List Value),(x::l).set 0 v=v::l)∧(∀(x v:Value) (l:List Value) (n:Nat),(x::l).set (n+1) v=x::l.set n v)
    ∧(∀(l:List Bool) (i:Nat) (v:Bool),l.toArray.setIfInBounds i v=(l.set i v).toArray)∧(∀(x v:Bool) (l:List Bool),(x::l).set 0 v=v::l)∧(∀(x v:Bool) (l:List Bool) (n:Nat),(x::l).set (n+1) v=x::l.set n v):=by
  refine⟨fun _ _ _=>rfl,fun _ _=>rfl,fun _ _ _=> ?_,fun _ _ _=>rfl,fun _ _ _ _=>rfl,fun _ _ _=> ?_,fun _ _ _=>rfl,fun _ _ _ _=>rfl⟩<;>simp
theorem dec_len:∀(k n:Nat),n<10 ^ (k+1)→(Lib.decDigits n).length≤k+1
 | 0,n,h=>by rw[Lib.decDigits,dif_pos (by omega)];simp
 | k+1,n,h=>by
  rw[Lib.decDigits];split
  · simp
  · have:=dec_len k (n / 10) (by rw[Nat.pow_succ] at h;omega);simp only[List.length_append,List.length_cons,List.length_nil];omega
shelf_lay LaysM.n171 Nm 171 at Tryz as shItoa
structure EnvS (ea:Int→Addr) (w:World):Prop where
 e:Errs ea w
 tab : Lib.TabIs Tryz.prog w "internal/strconv.uint64pow10" .u64 Lib.pow10Tab
theorem tabIs_below {w w':World} {n:String} {k:IntKind} {zs:List Int} (h:Lib.TabIs Tryz.prog w n k zs) (hb:Below w.heap.size w w'):Lib.TabIs Tryz.prog w' n k zs:=by
 unfold Lib.TabIs World.var? at h⊢
 cases hg:Tryz.prog.globalNamed n with
 | none=>rw[hg] at h;cases h
 | some g=>
  rw[hg] at h;simp only[Option.bind_some] at h⊢;rcases Nat.lt_or_ge g w.heap.size with hlt | hge
  · rw[hb.block g hlt];exact h
  · rw[Array.getElem?_eq_none hge] at h;cases h
theorem EnvS.below {ea:Int→Addr} {w w':World} (h:EnvS ea w) (hb:Below w.heap.size w w'):EnvS ea w':=⟨h.e.below hb,tabIs_below h.tab hb⟩
theorem EnvS.drew' {ea:Int→Addr} {w:World} (h:EnvS ea w):EnvS ea w.drew:=h.below (Below.refl _ _).drew
theorem grow_below (w:World) (k:Nat) (os:Array Obj):Below w.heap.size w (Go.Sort.grow (w.drewN k) os):=by
 exact⟨rfl,rfl,rfl,by simp,fun j hj=>Go.Sort.heap_grow_old _ _ (by simpa using hj)⟩
theorem itoa_of (n : Int) (h0 : 0 ≤ n) (h1 : n ≤ 999999) (w : World) (h : Lib.TabIs Tryz.prog w "internal/strconv.uint64pow10" .u64 Lib.pow10Tab) : Calls Tryz.prog 297 #[.int .i64 n] w (Makes (.string (bs (Lib.decDigits n.toNat))) w) := by
 have hn:Lib.itoa n=Lib.decDigits n.toNat:=by unfold Lib.itoa;rw[if_neg (by omega)]
 refine(Any.strconv_Itoa shItoa n (by omega) (by omega) w h).mono ?_;rintro e w' ⟨rfl,k,os,rfl⟩;exact⟨by rw[hn];rfl,grow_below _ _ _⟩
theorem idNumber_yes (n:Int) (m:Int) (h0:0≤n) (h1:n≤m) (hm:m≤999999) (ea:Int→Addr) (w:World) (h:EnvS ea w):Calls Tryz.prog 272 #[.int .i64 n,.int .i64 m] w (Makes (.string (bs (Lib.decDigits n.toNat))) w):=by
 have HI:=qq (fun W hW=>itoa_of n h0 (by omega) W hW);have HE:=qq h;clear h;go_enter Tryz.func272,Tryz.ntmps272;go_wp2_with fail;refine(HI.out _ (HE.out.below (by go_grown)).tab).mono ?_;rintro e w1 ⟨rfl,hb1⟩;go_wp2_with fail;go_ret;exact⟨rfl,below_then (by go_grown) hb1⟩
theorem idNumber_no (n:Int) (m:Int) (hn:n<0∨m<n) (ea:Int→Addr) (w:World) (h:Errs ea w):Calls Tryz.prog 272 #[.int .i64 n,.int .i64 m] w (Fails (errV (ea 1)) w):=by
 have h1:w.cell? ⟨0,0,none⟩=some (errV (ea 1)):=h.e1;clear h;by_cases hn0:n<0
 · clear hn;go_enter Tryz.func272,Tryz.ntmps272;go_wp2_with fail;exact⟨rfl,rfl,by go_grown⟩
 · have hm:=hn.resolve_left hn0;clear hn;go_enter Tryz.func272,Tryz.ntmps272;go_wp2_with fail;exact⟨rfl,rfl,by go_grown⟩
theorem catch_idle_s (d x e : Addr) (w : World) (hd : w.cell? d = some (.bool true)) :
    CallsD Tryz.prog 296 #[.pointer (some d),.pointer (some x),.pointer (some e)] .returning w fun en u' w'=>en=.returned (.tuple #[])∧u'=.returning∧w'=w:=by
 refine callsD_of_wpS Tryz.func296 rfl fun c₀ cs hu=> ?_
 apply wpS_seq;apply wpS_region;simp[wpOpsS,go_sem,recoverD,hu,Tryz.ntmps296,Exit.thenS];apply wpS_seq;apply wpS_region;simp[wpOpsS,go_sem,hd,Exit.thenS];refine wpS_cond (t:=false) (by simp[Act.eval,Array.replicate]) ?_;simp only[Bool.false_eq_true,if_false];refine wpS_of_wp (wp_skip ?_)
 cases c₀
 simp_all [bodyPostS,results,Tryz.results296]
theorem catch_took_s (D X E : Nat) (v0 : Value) (n : Int) (hn : 1 ≤ n ∧ n ≤ 14) (ea : Int → Addr) (older : List PanicEntry) (w : World) (hd : Blk w D #[.bool false]) (hx : Blk w X #[v0]) (hz : Blk w E #[.nilIface]) (hne : X ≠ E) (he : Errs ea w) :
    CallsD Tryz.prog 296 #[.pointer (some ⟨D,0,none⟩),.pointer (some ⟨X,0,none⟩),.pointer (some ⟨E,0,none⟩)] (.panicking ({v:=errV (ea n),recovered:=false}::older)) w fun en u' w'=>
     en=.returned (.tuple #[])∧u'=.panicking ({v:=errV (ea n),recovered:=true}::older)∧∃w1,Below w.heap.size w w1∧w'=(w1.setCell ⟨X,0,none⟩ (.string ⟨#[]⟩)).setCell ⟨E,0,none⟩ (errV (ea n)):=by
 have HT:=qq (fun W hW=>told_of n hn ea W hW);have HE:=qq he;have hd0:w.cell? ⟨D,0,none⟩=some (.bool false):=hd.cell 0;have HX:=qq hx;have HZ:=qq hz;have hne2:E≠X:=fun e=>hne e.symm
 clear he hd hx hz hn;refine callsD_of_wpS Tryz.func296 rfl fun c₀ cs hu=> ?_
 apply wpS_seq;apply wpS_region;simp[wpOpsS,go_sem,recoverD,hu,Tryz.ntmps296,Exit.thenS];apply wpS_seq;apply wpS_region;simp[wpOpsS,go_sem,hd0,Exit.thenS];refine wpS_cond (t:=true) (by simp[Act.eval,Array.replicate]) ?_;simp only[if_true];refine wpS_of_wp ?_
 go_wp2_with (go_at_call 210;refine(HT.out _ HE.out).mono ?_;rintro e w1 ⟨rfl,hb1⟩;have HX1:=HX.out.below hb1;have HZ1:=HZ.out.below hb1;have x0:w1.cell? ⟨X,0,none⟩=some v0:=HX1.cell 0;have x1:=HX1.free 0;have z0:w1.cell? ⟨E,0,none⟩=some .nilIface:=HZ1.cell 0;have z1:=HZ1.free 0;clear HX1 HZ1);simp[bodyPostS,results,Tryz.results296];exact⟨w1,hb1,rfl⟩
theorem try_gives_act (p : Addr) (s : ByteArray) (w : World) (h : ∀ W, Below w.heap.size w W → Calls Tryz.prog 271 #[.pointer (some p)] W (Makes (.string s) W)) :
    Calls Tryz.prog 270 #[.func (.func 271) #[] #[.pointer (some p)]] w (Makes (.tuple #[.string s,.nilIface]) w):=by
 have hmf:∀(fn:Fn) (first cap:Array Value) (w:World),(Instr.makeFunc fn first cap).run Tryz.prog w=.ok (.func fn first cap) w:=fun _ _ _ _=>rfl
 have H:=qq h;clear h;go_enter_defers Tryz.func270,Tryz.ntmps270;go_wp2_with fail;refine(H.out _ (by go_grown)).mono ?_;rintro e w1 ⟨rfl,hb1⟩;have HX:=(((Blk.fresh w #[.string ⟨#[]⟩] 9 _ rfl).below (by go_grown)).below hb1:Blk w1 w.heap.size _)
 have HE:=(((Blk.fresh (w.alloc (.cells #[.string ⟨#[]⟩] 9)) #[.nilIface] 26 (w.heap.size+1) (by simp)).below (by go_grown)).below hb1:Blk w1 (w.heap.size+1) _)
 have HD:=((Blk.fresh ((w.alloc (.cells #[.string ⟨#[]⟩] 9)).alloc (.cells #[.nilIface] 26)) #[.bool false] 4 (w.heap.size+1+1) (by simp)).below hb1:Blk w1 (w.heap.size+1+1) _)
 have x0:w1.cell? ⟨w.heap.size,0,none⟩=some (.string ⟨#[]⟩):=HX.cell 0;have x1:=HX.free 0;have e0:w1.cell? ⟨w.heap.size+1,0,none⟩=some .nilIface:=HE.cell 0;have e1:=HE.free 0;have d0:w1.cell? ⟨w.heap.size+1+1,0,none⟩=some (.bool false):=HD.cell 0;have d1:=HD.free 0;clear HX HE HD;have HB:Below w.heap.size w w1:=below_then (by go_grown) hb1;go_wp2_with fail
 refine leaves_cons (f:=296) (args:= #[.pointer (some ⟨w.heap.size+1+1,0,none⟩),.pointer (some ⟨w.heap.size,0,none⟩),.pointer (some ⟨w.heap.size+1,0,none⟩)]) (by simp) (by simp[go_sem]) ?_;refine(catch_idle_s _ _ _ _ (by simp[go_sem,d0,x0,e0])).mono ?_;rintro e u' w'' ⟨rfl,rfl,rfl⟩;simp[Leaves,settle,results,Tryz.results270,go_sem,d0,x0,e0,d1,x1,e1]
 exact⟨rfl,(((HB.setCell (p:=⟨w.heap.size,0,none⟩) (Nat.le_refl _) _).setCell (p:=⟨w.heap.size+1+1,0,none⟩) (by dsimp only;omega) _).setCell (p:=⟨w.heap.size,0,none⟩) (Nat.le_refl _) _).setCell (p:=⟨w.heap.size+1,0,none⟩) (by dsimp only;omega) _⟩
theorem try_dies_act (p : Addr) (n : Int) (hn : 1 ≤ n ∧ n ≤ 14) (ea : Int → Addr) (w : World) (he : Errs ea w) (h : ∀ W, Below w.heap.size w W → Calls Tryz.prog 271 #[.pointer (some p)] W (Fails (errV (ea n)) W)) :
    Calls Tryz.prog 270 #[.func (.func 271) #[] #[.pointer (some p)]] w (Makes (.tuple #[.string ⟨#[]⟩,errV (ea n)]) w):=by
 have hmf:∀(fn:Fn) (first cap:Array Value) (w:World),(Instr.makeFunc fn first cap).run Tryz.prog w=.ok (.func fn first cap) w:=fun _ _ _ _=>rfl
 have H:=qq h;have HR:=qq he;clear h he;go_enter_defers Tryz.func270,Tryz.ntmps270;go_wp2_with fail;refine(H.out _ (by go_grown)).mono ?_;rintro e w1 ⟨rfl,hb1⟩;have HB:Below w.heap.size w w1:=below_then (by go_grown) hb1;have HX:=(((Blk.fresh w #[.string ⟨#[]⟩] 9 _ rfl).below (by go_grown)).below hb1:Blk w1 w.heap.size _)
 have HE:=(((Blk.fresh (w.alloc (.cells #[.string ⟨#[]⟩] 9)) #[.nilIface] 26 (w.heap.size+1) (by simp)).below (by go_grown)).below hb1:Blk w1 (w.heap.size+1) _)
 have HD:=((Blk.fresh ((w.alloc (.cells #[.string ⟨#[]⟩] 9)).alloc (.cells #[.nilIface] 26)) #[.bool false] 4 (w.heap.size+1+1) (by simp)).below hb1:Blk w1 (w.heap.size+1+1) _)
 have HER:=HR.out.below HB;refine leaves_cons (f:=296) (args:= #[.pointer (some ⟨w.heap.size+1+1,0,none⟩),.pointer (some ⟨w.heap.size,0,none⟩),.pointer (some ⟨w.heap.size+1,0,none⟩)]) (by simp) (by simp[go_sem]) ?_;refine(catch_took_s _ _ _ _ n hn ea _ _ HD HX HE (by omega) HER).mono ?_;rintro e u' w'' ⟨rfl,rfl,w2,hb2,rfl⟩;have x0:w1.cell? ⟨w.heap.size,0,none⟩=some (.string ⟨#[]⟩):=HX.cell 0
 have hx2:=HX.below hb2;have he2:=HE.below hb2;have x2:w2.cell? ⟨w.heap.size,0,none⟩=some (.string ⟨#[]⟩):=hx2.cell 0;have e2:w2.cell? ⟨w.heap.size+1,0,none⟩=some .nilIface:=he2.cell 0;have x3:=hx2.free 0;have e3:=he2.free 0;simp[Leaves,settle,results,Tryz.results270,go_sem,x2,e2,x3,e3]
 exact⟨rfl,((HB.trans (hb2.mono HB.size)).setCell (p:=⟨w.heap.size,0,none⟩) (Nat.le_refl _) _).setCell (p:=⟨w.heap.size+1,0,none⟩) (by dsimp only;omega) _⟩
def idOk (n q:Int):Bool:=decide (0≤n∧n≤3∧0≤q∧q≤999999)
def idText (n q:Int):Str:=97::(Lib.decDigits n.toNat ++46::Lib.decDigits q.toNat)
theorem idAct1_yes (n q:Int) (hn:0≤n∧n≤3) (hq:0≤q∧q≤999999) (b:Nat) (ea:Int→Addr) (w:World) (h:EnvS ea w) (hp:Blk w b #[n,q]):Calls Tryz.prog 271 #[.pointer (some ⟨b,0,none⟩)] w (Makes (.string (bs (idText n q))) w):=by
 have H1:=qq (fun W hW=>idNumber_yes n 3 hn.1 hn.2 (by omega) ea W hW);have H2:=qq (fun W hW=>idNumber_yes q 999999 hq.1 hq.2 (by omega) ea W hW);have hz1:(bs (Lib.decDigits n.toNat)).size≤6:=by rw[bs_size];exact dec_len 5 _ (by omega)
 have hz2:(bs (Lib.decDigits q.toNat)).size≤6:=by rw[bs_size];exact dec_len 5 _ (by omega)
 have hb1:(⟨#[97]⟩:ByteArray) ++bs (Lib.decDigits n.toNat)=bs (97::Lib.decDigits n.toNat):=by
  apply data_inj;simp[bs]
 have hb2:bs (97::Lib.decDigits n.toNat) ++(⟨#[46]⟩:ByteArray)=bs (97::(Lib.decDigits n.toNat ++ [46])):=by
  apply data_inj;simp[bs]
 have hb3:bs (97::(Lib.decDigits n.toNat ++ [46])) ++bs (Lib.decDigits q.toNat)=bs (idText n q):=by
  apply data_inj;simp[bs,idText]
 have hz3:(bs (97::Lib.decDigits n.toNat)).size≤7:=by rw[bs_size] at hz1⊢;simp only[List.length_cons];omega
 have hz4:(bs (97::(Lib.decDigits n.toNat ++ [46]))).size≤8:=by rw[bs_size] at hz1⊢;simp only[List.length_cons,List.length_append,List.length_nil];omega
 have hl1:¬9223372036854775807<1+(bs (Lib.decDigits n.toNat)).size:=by omega
 have hl2:¬9223372036854775807<(bs (97::Lib.decDigits n.toNat)).size+1:=by omega
 have hl3:¬9223372036854775807<(bs (97::(Lib.decDigits n.toNat ++ [46]))).size+(bs (Lib.decDigits q.toNat)).size:=by omega
 clear hz1 hz2 hz3 hz4;have HE:=qq h.drew';have HK:=qq hp.drew;have HB:=qq (Below.refl w.heap.size w).drew;clear h hp hn hq;go_enter Tryz.func271,Tryz.ntmps271;go_wp2_with fail;refine wp_region_held_drew (S:=fun w'=>w'.cell? ⟨b,0,none⟩=some (.int .i64 n)∧w'.cell? ⟨b,1,none⟩=some (.int .i64 q)) (by kernel_rfl) ⟨HK.out.cell 0,HK.out.cell 1⟩ (fun hHeld=> ?_)
 refine takeU (d:=some 2) 0 rfl rfl hHeld (fun w' hS'=>by go_simp;(try rfl)) ?_;simp only[puts];refine takeU (d:=some 3) 1 rfl rfl hHeld (fun w' hS'=>by go_simp;(try rfl)) ?_;simp only[puts];refine takeU (d:=some 7) 5 rfl rfl hHeld (fun w' hS'=>by go_simp;(try rfl)) ?_;simp only[puts];refine takeU (d:=some 8) 6 rfl rfl hHeld (fun w' hS'=>by go_simp;(try rfl)) ?_;simp only[puts]
 refine wpAnyH_call (d:=some 4) 2 272 _ _ [.int .i64 n,.int .i64 3] rfl rfl (by kernel_rfl) rfl (enters_of Tryz.func272 (by kernel_rfl) rfl) (by rfl) (by rfl) ?_;refine(H1.out _ HE.out).mono ?_;rintro e w5 ⟨rfl,hb1⟩;have HB:=qq (below_then HB.out hb1);have HK:=qq (HK.out.below hb1);have HE:=qq (HE.out.below hb1)
 have hHeld:=(⟨HK.out.cell 0,HK.out.cell 1⟩:(fun w':World=>w'.cell? ⟨b,0,none⟩=some (.int .i64 n)∧w'.cell? ⟨b,1,none⟩=some (.int .i64 q)) w5)
 refine⟨_,rfl,_,fun _ h=>h,hHeld,fun hHeld=> ?_⟩;simp only[Act.put,puts];refine takeU (d:=some 5) 3 rfl rfl hHeld (fun w' hS'=>by go_simp;(try rfl)) ?_;simp only[puts];refine takeU (d:=some 6) 4 rfl rfl hHeld (fun w' hS'=>by go_simp;(try rfl)) ?_;simp only[puts]
 refine wpAnyH_call (d:=some 9) 7 272 _ _ [.int .i64 q,.int .i64 999999] rfl rfl (by kernel_rfl) rfl (enters_of Tryz.func272 (by kernel_rfl) rfl) (by rfl) (by rfl) ?_;refine(H2.out _ HE.out).mono ?_;rintro e w5 ⟨rfl,hb1⟩;have HB:=qq (below_then HB.out hb1);have HK:=qq (HK.out.below hb1);have HE:=qq (HE.out.below hb1)
 have hHeld:=(⟨HK.out.cell 0,HK.out.cell 1⟩:(fun w':World=>w'.cell? ⟨b,0,none⟩=some (.int .i64 n)∧w'.cell? ⟨b,1,none⟩=some (.int .i64 q)) w5)
 refine⟨_,rfl,_,fun _ h=>h,hHeld,fun hHeld=> ?_⟩;simp only[Act.put,puts];refine takeU (d:=some 10) 8 rfl rfl hHeld (fun w' hS'=>by go_simp;(try rfl)) ?_;simp only[puts];refine takeU (d:=some 1) 9 rfl rfl hHeld (fun w' hS'=>by go_simp;(try rfl)) ?_;simp only[puts];refine wpAnyH_done (by kernel_rfl) ?_ _;go_wp2_with fail;go_ret;exact⟨rfl,HB.out⟩
theorem idAct1_no1 (n q:Int) (hn:n<0∨3<n) (b:Nat) (ea:Int→Addr) (w:World) (h:EnvS ea w) (hp:Blk w b #[n,q]):Calls Tryz.prog 271 #[.pointer (some ⟨b,0,none⟩)] w (Fails (errV (ea 1)) w):=by
 have H1:=qq (fun W hW=>idNumber_no n 3 hn ea W hW);have HE:=qq h.drew';have HK:=qq hp.drew;have HB:=qq (Below.refl w.heap.size w).drew;clear h hp hn;go_enter Tryz.func271,Tryz.ntmps271;go_wp2_with fail;refine wp_region_held_drew (S:=fun w'=>w'.cell? ⟨b,0,none⟩=some (.int .i64 n)∧w'.cell? ⟨b,1,none⟩=some (.int .i64 q)) (by kernel_rfl) ⟨HK.out.cell 0,HK.out.cell 1⟩ (fun hHeld=> ?_)
 refine takeU (d:=some 2) 0 rfl rfl hHeld (fun w' hS'=>by go_simp;(try rfl)) ?_;simp only[puts];refine takeU (d:=some 3) 1 rfl rfl hHeld (fun w' hS'=>by go_simp;(try rfl)) ?_;simp only[puts];refine takeU (d:=some 7) 5 rfl rfl hHeld (fun w' hS'=>by go_simp;(try rfl)) ?_;simp only[puts];refine takeU (d:=some 8) 6 rfl rfl hHeld (fun w' hS'=>by go_simp;(try rfl)) ?_;simp only[puts]
 refine wpAnyH_die [{v:=errV (ea 1),recovered:=false}] 2 272 _ _ [.int .i64 n,.int .i64 3] rfl (by kernel_rfl) rfl (enters_of Tryz.func272 (by kernel_rfl) rfl) (by rfl) (by rfl) ?_;refine(H1.out _ HE.out.e).mono ?_;rintro e w6 ⟨rfl,hb6⟩;exact⟨rfl,rfl,rfl,below_then HB.out hb6⟩
theorem idAct1_no2 (n q:Int) (hn:0≤n∧n≤3) (hq:q<0∨999999<q) (b:Nat) (ea:Int→Addr) (w:World) (h:EnvS ea w) (hp:Blk w b #[n,q]):Calls Tryz.prog 271 #[.pointer (some ⟨b,0,none⟩)] w (Fails (errV (ea 1)) w):=by
 have H1:=qq (fun W hW=>idNumber_yes n 3 hn.1 hn.2 (by omega) ea W hW);have H2:=qq (fun W hW=>idNumber_no q 999999 hq ea W hW);have hz1:(bs (Lib.decDigits n.toNat)).size≤6:=by rw[bs_size];exact dec_len 5 _ (by omega)
 have hb1:(⟨#[97]⟩:ByteArray) ++bs (Lib.decDigits n.toNat)=bs (97::Lib.decDigits n.toNat):=by
  apply data_inj;simp[bs]
 have hb2:bs (97::Lib.decDigits n.toNat) ++(⟨#[46]⟩:ByteArray)=bs (97::(Lib.decDigits n.toNat ++ [46])):=by
  apply data_inj;simp[bs]
 have hz3:(bs (97::Lib.decDigits n.toNat)).size≤7:=by rw[bs_size] at hz1⊢;simp only[List.length_cons];omega
 have hl1:¬9223372036854775807<1+(bs (Lib.decDigits n.toNat)).size:=by omega
 have hl2:¬9223372036854775807<(bs (97::Lib.decDigits n.toNat)).size+1:=by omega
 clear hz1 hz3;have HE:=qq h.drew';have HK:=qq hp.drew;have HB:=qq (Below.refl w.heap.size w).drew;clear h hp hn hq;go_enter Tryz.func271,Tryz.ntmps271;go_wp2_with fail;refine wp_region_held_drew (S:=fun w'=>w'.cell? ⟨b,0,none⟩=some (.int .i64 n)∧w'.cell? ⟨b,1,none⟩=some (.int .i64 q)) (by kernel_rfl) ⟨HK.out.cell 0,HK.out.cell 1⟩ (fun hHeld=> ?_)
 refine takeU (d:=some 2) 0 rfl rfl hHeld (fun w' hS'=>by go_simp;(try rfl)) ?_;simp only[puts];refine takeU (d:=some 3) 1 rfl rfl hHeld (fun w' hS'=>by go_simp;(try rfl)) ?_;simp only[puts];refine takeU (d:=some 7) 5 rfl rfl hHeld (fun w' hS'=>by go_simp;(try rfl)) ?_;simp only[puts];refine takeU (d:=some 8) 6 rfl rfl hHeld (fun w' hS'=>by go_simp;(try rfl)) ?_;simp only[puts]
 refine wpAnyH_call (d:=some 4) 2 272 _ _ [.int .i64 n,.int .i64 3] rfl rfl (by kernel_rfl) rfl (enters_of Tryz.func272 (by kernel_rfl) rfl) (by rfl) (by rfl) ?_;refine(H1.out _ HE.out).mono ?_;rintro e w5 ⟨rfl,hb1⟩;have HB:=qq (below_then HB.out hb1);have HK:=qq (HK.out.below hb1);have HE:=qq (HE.out.below hb1)
 have hHeld:=(⟨HK.out.cell 0,HK.out.cell 1⟩:(fun w':World=>w'.cell? ⟨b,0,none⟩=some (.int .i64 n)∧w'.cell? ⟨b,1,none⟩=some (.int .i64 q)) w5)
 refine⟨_,rfl,_,fun _ h=>h,hHeld,fun hHeld=> ?_⟩;simp only[Act.put,puts];refine takeU (d:=some 5) 3 rfl rfl hHeld (fun w' hS'=>by go_simp;(try rfl)) ?_;simp only[puts];refine takeU (d:=some 6) 4 rfl rfl hHeld (fun w' hS'=>by go_simp;(try rfl)) ?_;simp only[puts]
 refine wpAnyH_die [{v:=errV (ea 1),recovered:=false}] 7 272 _ _ [.int .i64 q,.int .i64 999999] rfl (by kernel_rfl) rfl (enters_of Tryz.func272 (by kernel_rfl) rfl) (by rfl) (by rfl) ?_;refine(H2.out _ HE.out.e).mono ?_;rintro e w6 ⟨rfl,hb6⟩;exact⟨rfl,rfl,rfl,below_then HB.out hb6⟩
theorem idRight_of (n q:Int) (ea:Int→Addr) (w:World) (h:EnvS ea w):Calls Tryz.prog 141 #[.agg #[n,q]] w (Makes (.bool (idOk n q)) w):=by
 have hA:∀W,EnvS ea W→∃s,Calls Tryz.prog 226 #[.agg #[n,q]] W (Makes (.tuple #[.string s,if idOk n q=true then .nilIface else errV (ea 1)]) W):=by
  intro W hW;have hmf:∀(fn:Fn) (first cap:Array Value) (w:World),(Instr.makeFunc fn first cap).run Tryz.prog w=.ok (.func fn first cap) w:=fun _ _ _ _=>rfl
  have hB:Below W.heap.size W (W.alloc (.cells #[n,q] 36)):=(Below.refl _ _).alloc (Nat.le_refl _) _;have hE:=hW.below hB;have hK:=Blk.fresh W #[n,q] 36 _ rfl;by_cases hi:0≤n∧n≤3∧0≤q∧q≤999999
  · have hok:idOk n q=true:=decide_eq_true hi;rw[hok];refine⟨bs (idText n q),?_⟩;have HT:=qq (try_gives_act ⟨W.heap.size,0,none⟩ _ _ (fun X hX=>idAct1_yes n q ⟨hi.1,hi.2.1⟩ hi.2.2 _ ea X (hE.below hX) (hK.below hX)));clear hW hE hK hi hok;go_enter Tryz.func226,Tryz.ntmps226;go_wp2_with fail;refine HT.out.mono ?_;rintro e w1 ⟨rfl,hb1⟩;go_wp2_with fail;go_ret2;exact⟨rfl,below_then hB hb1⟩
  · have hok:idOk n q=false:=decide_eq_false hi;rw[hok];refine⟨⟨#[]⟩,?_⟩;have HT:=qq (try_dies_act ⟨W.heap.size,0,none⟩ 1 (by omega) ea _ hE.e (fun X hX=>by
      by_cases hn:0≤n∧n≤3
      · exact idAct1_no2 n q hn (by omega) _ ea X (hE.below hX) (hK.below hX)
      · exact idAct1_no1 n q (by omega) _ ea X (hE.below hX) (hK.below hX)))
    clear hW hE hK hi hok;go_enter Tryz.func226,Tryz.ntmps226;go_wp2_with fail;refine HT.out.mono ?_;rintro e w1 ⟨rfl,hb1⟩;go_wp2_with fail;go_ret2;exact⟨rfl,below_then hB hb1⟩
 have hB:Below w.heap.size w (w.alloc (.cells #[n,q] 36)):=(Below.refl _ _).alloc (Nat.le_refl _) _;obtain⟨s,hs⟩:=hA _ (h.below hB);have HS:=qq hs;clear h hs hA
 cases hk:idOk n q
 all_goals
  rw[hk] at HS;clear hk;go_enter Tryz.func141,Tryz.ntmps141;go_wp2_with fail;refine HS.out.mono ?_;rintro e w1 ⟨rfl,hb1⟩;go_wp2_with fail;go_ret;exact⟨rfl,below_then hB hb1⟩
structure SReg where
 n:Int
 p:Int
 seat:MSeat
 deriving DecidableEq
structure SAct where
 an:Int
 aq:Int
 oc:Int
 dp:Int
 ex:Nat
 pa:Int
 de:Int
 regs:List SReg
 deriving DecidableEq
structure SPart where
 an:Int
 aq:Int
 rg:Int
 seat:MSeat
 deriving DecidableEq
structure Sto where
 node:Int
 next:Int
 acts:List SAct
 parts:List SPart
structure SFact where
 k:Int
 an:Int
 aq:Int
 rg:Int
 nd:Int
 pt:Int
 pr:Int
 oc:Int
 dp:Int
 pa:Int
 st:Int
 hw:Int
 de:Int
 ex:Nat
def ctxOk (n q oc dp:Int) (ex:Nat):Bool:=fdelay ex && decide (fplain ex=ex) && idOk n q && decide ((oc=1∨oc=2)∧0≤dp∧dp≤3)
def stOk (s h:Int):Bool:=if s=14 then decide (h=1∨4≤h∧h≤8) else decide (1≤s∧s≤13∧h=0)
def fok (f:SFact):Bool:=
 if f.k=1 then ctxOk f.an f.aq f.oc f.dp f.ex && decide (0≤f.pa∧f.pa≤8) && decide (f.rg=0∧f.nd=0∧f.pt=0∧f.pr=0∧f.st=0∧f.hw=0∧f.de=0)
 else decide (f.ex=0∧f.oc=0∧f.dp=0∧f.pa=0) && (
   if f.k=2 then idOk f.an f.aq && decide (0≤f.rg∧f.rg≤5∧0≤f.nd∧f.nd≤3∧0≤f.pt∧f.pt≤7∧1≤f.pr∧f.pr≤2) && decide (f.st=0∧f.hw=0∧f.de=0)
   else if f.k=3 then idOk f.an f.aq && decide (0≤f.rg∧f.rg≤5) && stOk f.st f.hw && decide (f.nd=0∧f.pt=0∧f.pr=0∧f.de=0)
   else if f.k=4 then idOk f.an f.aq && decide (1≤f.de∧f.de≤2) && decide (f.rg=0∧f.nd=0∧f.pt=0∧f.pr=0∧f.st=0∧f.hw=0)
   else if f.k=5 then idOk f.an f.aq && decide (f.rg=0∧f.nd=0∧f.pt=0∧f.pr=0∧f.st=0∧f.hw=0∧f.de=0)
   else if f.k=6 then idOk f.an f.aq && decide (0≤f.pt∧f.pt≤7∧1≤f.pr∧f.pr≤2) && decide (f.rg=0∧f.nd=0∧f.st=0∧f.hw=0∧f.de=0)
   else if f.k=7 then decide (0≤f.pt∧f.pt≤7∧0≤f.rg∧f.rg≤5) && decide (f.an=0∧f.aq=0∧f.nd=0∧f.pr=0∧f.st=0∧f.hw=0∧f.de=0)
   else if f.k=8 then decide (0≤f.pt∧f.pt≤7) && stOk f.st f.hw && decide (f.an=0∧f.aq=0∧f.rg=0∧f.nd=0∧f.pr=0∧f.de=0)
   else false)
def sturn (x:MSeat) (s h:Int):Option MSeat:=if x.s=14∨mRight ⟨x.p,x.d,s,h⟩=false then none else some ⟨x.p,x.d,s,h⟩
def sfind (S:Sto) (n q:Int):Option Nat:=S.acts.findIdx? fun a=>decide (a.an=n∧a.aq=q)
def schild (S:Sto) (pa:Int):Option Nat:=S.acts.findIdx? fun a=>decide (a.pa=pa)
def sact (a:SAct) (f:SFact):Option SAct:=
 if f.k=2 then(if f.rg≠a.regs.length∨a.de≠0∨(a.regs.any fun r=>decide (r.n=f.nd∧r.p=f.pt))=true then none else some {a with regs:=a.regs ++ [⟨f.nd,f.pt,⟨f.pr,1,1,0⟩⟩]})
 else if f.k=3 then(match a.regs[f.rg.toNat]? with
   | none=>none
   | some r=>(sturn r.seat f.st f.hw).map fun t=>{a with regs:=a.regs.set f.rg.toNat {r with seat:=t}})
 else if a.oc≠1∨a.de≠0 then none else some {a with de:=f.de}
def sput (S:Sto) (f:SFact):Option Sto:=
 if f.k=1 then(if f.an≠S.node∨f.aq<S.next∨8≤S.acts.length∨(0<f.pa∧((S.parts.length:Int)<f.pa∨(schild S f.pa).isSome=true)) then none
   else some {S with next:=f.aq+1,acts:=S.acts ++ [⟨f.an,f.aq,f.oc,f.dp,f.ex,f.pa,0,[]⟩]})
 else if f.k=6 then(if f.pt≠S.parts.length then none else some {S with parts:=S.parts ++ [⟨f.an,f.aq,-1,⟨f.pr,2,1,0⟩⟩]})
 else if f.k=7∨f.k=8 then(match S.parts[f.pt.toNat]? with
   | none=>none
   | some p=>if f.k=8 then(sturn p.seat f.st f.hw).map fun t=>{S with parts:=S.parts.set f.pt.toNat {p with seat:=t}}
     else if p.rg≠ -1 then none else some {S with parts:=S.parts.set f.pt.toNat {p with rg:=f.rg}})
 else match sfind S f.an f.aq with
  | none=>none
  | some i=>match S.acts[i]? with
   | none=>none
   | some a=>if f.k=5 then(if(a.regs.any fun r=>decide (r.seat.s≠14))=true then none else some {S with acts:=S.acts.take i ++S.acts.drop (i+1)})
    else(sact a f).map fun b=>{S with acts:=S.acts.set i b}
def sapply (S:Sto) (f:SFact):Sto×Int:=if fok f=false then(S,4) else match sput S f with
 | none=>(S,9)
 | some T=>(T,0)
theorem fok_any {f:SFact} (h:fok f=true):1≤f.k∧f.k≤8:=by
 unfold fok at h;by_cases h1:f.k=1;· omega
 by_cases h2:f.k=2;· omega
 by_cases h3:f.k=3;· omega
 by_cases h4:f.k=4;· omega
 by_cases h5:f.k=5;· omega
 by_cases h6:f.k=6;· omega
 by_cases h7:f.k=7;· omega
 by_cases h8:f.k=8;· omega
 simp[h1,h2,h3,h4,h5,h6,h7,h8] at h
theorem fok1 {f:SFact} (h:fok f=true) (hk:f.k=1):ctxOk f.an f.aq f.oc f.dp f.ex=true∧0≤f.pa∧f.pa≤8:=by
 unfold fok at h;rw[if_pos hk] at h;simp only[Bool.and_eq_true,decide_eq_true_eq] at h;exact⟨h.1.1,h.1.2.1,h.1.2.2⟩
theorem fok2 {f:SFact} (h:fok f=true) (hk:f.k=2):idOk f.an f.aq=true∧0≤f.rg∧f.rg≤5∧0≤f.nd∧f.nd≤3∧0≤f.pt∧f.pt≤7∧1≤f.pr∧f.pr≤2:=by
 unfold fok at h;simp[hk] at h;obtain⟨_,⟨h1,h2⟩,_⟩:=h;refine⟨h1,?_⟩;omega
theorem fok3 {f:SFact} (h:fok f=true) (hk:f.k=3):idOk f.an f.aq=true∧0≤f.rg∧f.rg≤5∧stOk f.st f.hw=true:=by
 unfold fok at h;simp[hk] at h;exact⟨h.2.1.1.1,h.2.1.1.2.1,h.2.1.1.2.2,h.2.1.2⟩
theorem fok4 {f:SFact} (h:fok f=true) (hk:f.k=4):idOk f.an f.aq=true∧1≤f.de∧f.de≤2:=by
 unfold fok at h;simp[hk] at h;exact⟨h.2.1.1,h.2.1.2.1,h.2.1.2.2⟩
theorem fok6 {f:SFact} (h:fok f=true) (hk:f.k=6):idOk f.an f.aq=true∧0≤f.pt∧f.pt≤7∧1≤f.pr∧f.pr≤2:=by
 unfold fok at h;simp[hk] at h;obtain⟨_,⟨h1,h2⟩,_⟩:=h;refine⟨h1,?_⟩;omega
theorem fok7 {f:SFact} (h:fok f=true) (hk:f.k=7):0≤f.pt∧f.pt≤7∧0≤f.rg∧f.rg≤5:=by
 unfold fok at h;simp[hk] at h;omega
theorem fok8 {f:SFact} (h:fok f=true) (hk:f.k=8):0≤f.pt∧f.pt≤7∧stOk f.st f.hw=true:=by
 unfold fok at h;simp[hk] at h;exact⟨h.2.1.1.1,h.2.1.1.2,h.2.1.2⟩
theorem idOk_iff (n q:Int):idOk n q=true↔0≤n∧n≤3∧0≤q∧q≤999999:=by unfold idOk;simp
theorem ctxOk_id {n q oc dp:Int} {ex:Nat} (h:ctxOk n q oc dp ex=true):0≤n∧n≤3∧0≤q∧q≤999999:=by
 unfold ctxOk at h;simp only[Bool.and_eq_true] at h;exact(idOk_iff _ _).1 h.1.2
theorem new_right (p d:Int) (hp:1≤p∧p≤2) (hd:d=1∨d=2):mRight ⟨p,d,1,0⟩=true:=by
 obtain rfl | rfl:p=1∨p=2:=by omega
 all_goals (rcases hd with rfl | rfl<;>decide+kernel)
theorem sturn_some {x t:MSeat} {s h:Int} (ht:sturn x s h=some t):x.s≠14∧t=⟨x.p,x.d,s,h⟩∧mRight t=true:=by
 unfold sturn at ht;split at ht
 · cases ht
 · rename_i hn
   injection ht with ht
   subst ht;refine⟨fun h=>hn (.inl h),rfl,?_⟩
   cases hm:mRight ⟨x.p,x.d,s,h⟩ with
   | true=>rfl
   | false=>exact absurd (.inr hm) hn
theorem pairwise_key {α:Type} {R:Int→Int→Prop} (f:α→Int) (l:List α) (i:Nat) (b:α) (hb:∀a,l[i]? =some a→f b=f a) (h:l.Pairwise fun x y=>R (f x) (f y)):(l.set i b).Pairwise fun x y=>R (f x) (f y):=by
 rw[←List.pairwise_map (R:=R) (f:=f)] at h⊢;rw[List.map_set];by_cases hi:i<l.length
 · have e:f b=(l.map f)[i]'(by simpa using hi):=by rw[hb l[i] (List.getElem?_eq_getElem hi)];simp
   rw[e,List.set_getElem_self];exact h
 · rw[List.set_eq_of_length_le (by simpa using Nat.le_of_not_lt hi)];exact h
structure AGood (node next:Int) (np:Nat) (a:SAct):Prop where
 id:a.an=node∧0≤a.aq∧a.aq<next
 ctx:ctxOk a.an a.aq a.oc a.dp a.ex=true
 pa:0≤a.pa∧a.pa≤np
 de:a.de=0∨a.oc=1∧(a.de=1∨a.de=2)
 len:a.regs.length≤6
 reg:∀r∈a.regs,0≤r.n∧r.n≤3∧0≤r.p∧r.p≤7∧r.seat.d=1∧mRight r.seat=true
 once:a.regs.Pairwise fun r t=>¬(r.n=t.n∧r.p=t.p)
def PGood (p:SPart):Prop:=idOk p.an p.aq=true∧(p.rg= -1∨0≤p.rg∧p.rg≤5)∧p.seat.d=2∧mRight p.seat=true
structure StoGood (S:Sto):Prop where
 node:0≤S.node∧S.node≤3
 next:0≤S.next∧S.next≤1000000
 acts:S.acts.length≤8
 parts:S.parts.length≤8
 act:∀a∈S.acts,AGood S.node S.next S.parts.length a
 part:∀p∈S.parts,PGood p
 sorted:S.acts.Pairwise fun a b=>a.aq<b.aq
 child:S.acts.Pairwise fun a b=>0<a.pa→a.pa≠b.pa
theorem AGood.more {node next next':Int} {np np':Nat} {a:SAct} (h:AGood node next np a) (h1:next≤next') (h2:np≤np'):AGood node next' np' a:=
 ⟨⟨h.id.1,h.id.2.1,by have:=h.id.2.2;omega⟩,h.ctx,⟨h.pa.1,by have:=h.pa.2;omega⟩,h.de,h.len,h.reg,h.once⟩
theorem StoGood.new {n:Int} (h0:0≤n) (h1:n≤3):StoGood ⟨n,0,[],[]⟩:=
 ⟨⟨h0,h1⟩,⟨by show(0:Int)≤0;decide,by show(0:Int)≤1000000;decide⟩,by simp,by simp,fun a h=>by simp at h,fun a h=>by simp at h,.nil,.nil⟩
theorem sact_some {a b:SAct} {f:SFact} {node next:Int} {np:Nat} (hA:AGood node next np a) (hf:fok f=true) (hk:f.k=2∨f.k=3∨f.k=4) (h:sact a f=some b):AGood node next np b∧b.aq=a.aq∧b.pa=a.pa:=by
 unfold sact at h;rcases hk with hk | hk | hk
 · rw[if_pos hk] at h;obtain⟨f1,f2,f3,f4,f5,f6,f7,f8,f9⟩:=fok2 hf hk;split at h
   · cases h
   · rename_i hn
     injection h with h
     subst h;have h1:f.rg=a.regs.length:=Classical.byContradiction fun e=>hn (.inl e)
     have h3:¬(a.regs.any fun r=>decide (r.n=f.nd∧r.p=f.pt))=true:=fun e=>hn (.inr (.inr e))
     refine⟨⟨hA.id,hA.ctx,hA.pa,hA.de,?_,?_,?_⟩,rfl,rfl⟩
     · simp only[List.length_append,List.length_cons,List.length_nil];omega
     · intro r hr;rcases List.mem_append.1 hr with hr | hr
       · exact hA.reg r hr
       · obtain rfl:=List.mem_singleton.1 hr;exact⟨f4,f5,f6,f7,rfl,new_right _ _ ⟨f8,f9⟩ (.inl rfl)⟩
     · refine List.pairwise_append.2 ⟨hA.once,by simp,fun r hr t ht he=>h3 ?_⟩;obtain rfl:=List.mem_singleton.1 ht;exact List.any_eq_true.2 ⟨r,hr,by simpa using he⟩
 · rw[if_neg (by omega),if_pos hk] at h
   cases hr:a.regs[f.rg.toNat]? with
   | none=>rw[hr] at h;cases h
   | some r=>
    rw[hr] at h;simp only[Option.map_eq_some_iff] at h;obtain⟨t,ht,rfl⟩:=h;obtain⟨t1,t2,t3⟩:=sturn_some ht;have hm:r∈a.regs:=List.mem_of_getElem? hr;refine⟨⟨hA.id,hA.ctx,hA.pa,hA.de,by simpa using hA.len,?_,?_⟩,rfl,rfl⟩
    · intro x hx;rcases List.mem_or_eq_of_mem_set hx with hx | rfl
      · exact hA.reg x hx
      · obtain⟨r1,r2,r3,r4,r5,r6⟩:=hA.reg r hm;exact⟨r1,r2,r3,r4,by rw[t2];exact r5,t3⟩
    · have hA2:=hA.once;rw[←List.pairwise_map (R:=fun(x y:Int×Int)=>¬(x.1=y.1∧x.2=y.2)) (f:=fun r:SReg=>(r.n,r.p))] at hA2;show List.Pairwise (fun r t=>¬(r.n=t.n∧r.p=t.p)) (a.regs.set f.rg.toNat {r with seat:=t})
      rw[←List.pairwise_map (R:=fun(x y:Int×Int)=>¬(x.1=y.1∧x.2=y.2)) (f:=fun r:SReg=>(r.n,r.p))];rw[List.map_set];obtain⟨hi,he⟩:=List.getElem?_eq_some_iff.1 hr;have e:(r.n,r.p)=(a.regs.map fun r:SReg=>(r.n,r.p))[f.rg.toNat]'(by simpa using hi):=by simp[he]
      show List.Pairwise (fun x y=>¬(x.1=y.1∧x.2=y.2)) ((a.regs.map fun r:SReg=>(r.n,r.p)).set f.rg.toNat (r.n,r.p))
      rw[e,List.set_getElem_self];exact hA2
 · rw[if_neg (by omega),if_neg (by omega)] at h;split at h
   · cases h
   · rename_i hn
     injection h with h
     subst h;obtain⟨f1,f2,f3⟩:=fok4 hf hk;have h1:a.oc=1:=Classical.byContradiction fun e=>hn (.inl e)
     exact⟨⟨hA.id,hA.ctx,hA.pa,.inr ⟨h1,by show f.de=1∨f.de=2;omega⟩,hA.len,hA.reg,hA.once⟩,rfl,rfl⟩
theorem sput_good {S T:Sto} {f:SFact} (hS:StoGood S) (hf:fok f=true) (h:sput S f=some T):StoGood T:=by
 have hk:=fok_any hf;unfold sput at h;by_cases k1:f.k=1
 · rw[if_pos k1] at h;obtain⟨f1,f2,f3⟩:=fok1 hf k1;have fi:=ctxOk_id f1;split at h
   · cases h
   · rename_i hn
     injection h with h
     subst h;have h1:f.an=S.node:=Classical.byContradiction fun e=>hn (.inl e)
     have h2:S.next≤f.aq:=Classical.byContradiction fun e=>hn (.inr (.inl (by omega)))
     have h3:S.acts.length<8:=Classical.byContradiction fun e=>hn (.inr (.inr (.inl (by omega))))
     have h4:0<f.pa→f.pa≤S.parts.length∧schild S f.pa=none:=fun hp=>by
      refine⟨Classical.byContradiction fun e=>hn (.inr (.inr (.inr ⟨hp,.inl (by omega)⟩))),?_⟩
      cases hc:schild S f.pa with
      | none=>rfl
      | some i=>exact absurd (.inr (.inr (.inr ⟨hp,.inr (by rw[hc];rfl)⟩))) hn
     have hnx:=hS.next;refine⟨hS.node,⟨by show 0≤f.aq+1;omega,by show f.aq+1≤1000000;omega⟩,by simp;omega,hS.parts,?_,hS.part,?_,?_⟩
     · intro a ha;rcases List.mem_append.1 ha with ha | ha
       · exact(hS.act a ha).more (by show S.next≤f.aq+1;omega) (Nat.le_refl _)
       · obtain rfl:=List.mem_singleton.1 ha;refine⟨⟨h1,fi.2.2.1,by show f.aq<f.aq+1;omega⟩,f1,⟨f2,?_⟩,.inl rfl,by simp,fun r hr=>by simp at hr,.nil⟩;show f.pa≤(S.parts.length:Int)
         by_cases hp:0<f.pa
         · exact(h4 hp).1
         · omega
     · refine List.pairwise_append.2 ⟨hS.sorted,by simp,fun a ha b hb=> ?_⟩;obtain rfl:=List.mem_singleton.1 hb;have:=(hS.act a ha).id.2.2;show a.aq<f.aq
       omega
     · refine List.pairwise_append.2 ⟨hS.child,by simp,fun a ha b hb hp he=> ?_⟩;obtain rfl:=List.mem_singleton.1 hb;have he':a.pa=f.pa:=he;have hc:=(h4 (by omega)).2;have:=List.findIdx?_eq_none_iff.1 hc a ha;simp[he'] at this
 rw[if_neg k1] at h;by_cases k6:f.k=6
 · rw[if_pos k6] at h;obtain⟨f1,f2,f3,f4,f5⟩:=fok6 hf k6;split at h
   · cases h
   · rename_i hn
     injection h with h
     subst h;have h1:f.pt=S.parts.length:=Classical.byContradiction hn;refine⟨hS.node,hS.next,hS.acts,by simp;omega,fun a ha=>(hS.act a ha).more (Int.le_refl _) (by simp),?_,hS.sorted,hS.child⟩;intro p hp;rcases List.mem_append.1 hp with hp | hp
     · exact hS.part p hp
     · obtain rfl:=List.mem_singleton.1 hp;exact⟨f1,.inl rfl,rfl,new_right _ _ ⟨f4,f5⟩ (.inr rfl)⟩
 rw[if_neg k6] at h;by_cases k78:f.k=7∨f.k=8
 · rw[if_pos k78] at h
   cases hp:S.parts[f.pt.toNat]? with
   | none=>rw[hp] at h;cases h
   | some p=>
    rw[hp] at h;simp only at h;have hm:p∈S.parts:=List.mem_of_getElem? hp;obtain⟨p1,p2,p3,p4⟩:=hS.part p hm;by_cases k8:f.k=8
    · rw[if_pos k8] at h;simp only[Option.map_eq_some_iff] at h;obtain⟨t,ht,rfl⟩:=h;obtain⟨t1,t2,t3⟩:=sturn_some ht;refine⟨hS.node,hS.next,hS.acts,by simpa using hS.parts,fun a ha=>(hS.act a ha).more (Int.le_refl _) (by simp),?_,hS.sorted,hS.child⟩;intro x hx;rcases List.mem_or_eq_of_mem_set hx with hx | rfl
      · exact hS.part x hx
      · exact⟨p1,p2,by rw[t2];exact p3,t3⟩
    · rw[if_neg k8] at h;have k7:f.k=7:=k78.resolve_right k8;obtain⟨f1,f2,f3,f4⟩:=fok7 hf k7;split at h
      · cases h
      · injection h with h
        subst h;refine⟨hS.node,hS.next,hS.acts,by simpa using hS.parts,fun a ha=>(hS.act a ha).more (Int.le_refl _) (by simp),?_,hS.sorted,hS.child⟩;intro x hx;rcases List.mem_or_eq_of_mem_set hx with hx | rfl
        · exact hS.part x hx
        · exact⟨p1,.inr ⟨f3,f4⟩,p3,p4⟩
 rw[if_neg k78] at h
 cases hi:sfind S f.an f.aq with
 | none=>rw[hi] at h;cases h
 | some i=>
  rw[hi] at h;simp only at h
  cases ha:S.acts[i]? with
  | none=>rw[ha] at h;cases h
  | some a=>
   rw[ha] at h;simp only at h;have hm:a∈S.acts:=List.mem_of_getElem? ha;by_cases k5:f.k=5
   · rw[if_pos k5] at h;split at h
     · cases h
     · injection h with h
       subst h;have hs:(S.acts.take i ++S.acts.drop (i+1)).Sublist S.acts:=by
        rw[←List.eraseIdx_eq_take_drop_succ];exact List.eraseIdx_sublist _ _
       refine⟨hS.node,hS.next,Nat.le_trans hs.length_le hS.acts,hS.parts,fun x hx=>hS.act x (hs.subset hx),hS.part,hS.sorted.sublist hs,hS.child.sublist hs⟩
   · rw[if_neg k5] at h;simp only[Option.map_eq_some_iff] at h;obtain⟨b,hb,rfl⟩:=h;obtain⟨b1,b2,b3⟩:=sact_some (hS.act a hm) hf (by omega) hb;refine⟨hS.node,hS.next,by simpa using hS.acts,hS.parts,?_,hS.part,?_,?_⟩
     · intro x hx;rcases List.mem_or_eq_of_mem_set hx with hx | rfl
       · exact hS.act x hx
       · exact b1
     · exact pairwise_key (R:=fun x y=>x<y) (fun a:SAct=>a.aq) _ _ _ (fun x hx=>by rw[ha] at hx;injection hx with hx;rw[←hx];exact b2) hS.sorted
     · exact pairwise_key (R:=fun x y=>0<x→x≠y) (fun a:SAct=>a.pa) _ _ _ (fun x hx=>by rw[ha] at hx;injection hx with hx;rw[←hx];exact b3) hS.child
theorem sapply_good {S:Sto} {f:SFact} (hS:StoGood S):StoGood (sapply S f).1:=by
 unfold sapply;by_cases hf:fok f=false
 · rw[if_pos hf];exact hS
 · rw[if_neg hf]
   cases h:sput S f with
   | none=>exact hS
   | some T=>exact sput_good hS (by simpa using hf) h
open Go.RowKit
def fcp (a b:Int):Int:=if a<b then -1 else if b<a then 1 else 0
theorem notnan_of (a:Int) (w:World):Calls Tryz.prog 289 #[.int .i64 a] w (Gives (.bool false) w):=by
 go_enter Tryz.func289,Tryz.ntmps289;go_wp2;go_ret;exact⟨ret_bool (by simp),rfl⟩
theorem cmpInt_of (a b:Int) (w:World):Calls Tryz.prog 253 #[.int .i64 a,.int .i64 b] w (Gives (.int .i64 (fcp a b)) w):=by
 have HN:=qq notnan_of;unfold fcp;by_cases h1:a<b
 · rw[if_pos h1];go_enter Tryz.func253,Tryz.ntmps253;go_wp2_with (go_at_call 289;refine(HN.out _ _).mono ?_;rintro e w1 ⟨rfl,rfl⟩);go_ret;exact⟨rfl,rfl⟩
 rw[if_neg h1];by_cases h2:b<a
 · rw[if_pos h2];go_enter Tryz.func253,Tryz.ntmps253;go_wp2_with (go_at_call 289;refine(HN.out _ _).mono ?_;rintro e w1 ⟨rfl,rfl⟩);go_ret;exact⟨rfl,rfl⟩
 rw[if_neg h2];go_enter Tryz.func253,Tryz.ntmps253;go_wp2_with (go_at_call 289;refine(HN.out _ _).mono ?_;rintro e w1 ⟨rfl,rfl⟩);go_ret;exact⟨rfl,rfl⟩
theorem forder_eq (x y:Nat) (hx:F64 x) (hy:F64 y):forder x y=if flt x y=true then -1 else if flt y x=true then 1 else fcp (fclass x) (fclass y):=by
 unfold F64 at hx hy;unfold forder fplace flt fclass fcp
 cases hnx:fnan x<;>cases hny:fnan y
 · simp only[Bool.not_false,Bool.true_and,decide_eq_true_eq,Bool.false_eq_true,if_false];unfold fkey;have nx:¬9218868437227405312<x % 9223372036854775808:=by unfold fnan at hnx;simpa using hnx
   have ny:¬9218868437227405312<y % 9223372036854775808:=by unfold fnan at hny;simpa using hny
   repeat' split
   all_goals omega
 · simp only[Bool.not_false,Bool.not_true,Bool.true_and,Bool.and_false,Bool.false_and,Bool.false_eq_true,if_false,if_true]
   repeat' split
   all_goals omega
 · simp only[Bool.not_false,Bool.not_true,Bool.true_and,Bool.and_false,Bool.false_and,Bool.false_eq_true,if_false,if_true]
   repeat' split
   all_goals omega
 · simp
theorem forder_of (x y:Nat) (hx:F64 x) (hy:F64 y) (w:World):Calls Tryz.prog 189 #[flV x,flV y] w (Gives (.int .i64 (forder x y)) w):=by
 rw[forder_eq x y hx hy];have e1:=run_flt x y hx hy;have e2:=run_fgt x y hx hy;have HX:=qq (fun W=>class_of x hx W);have HY:=qq (fun W=>class_of y hy W);have HC:=qq cmpInt_of;generalize fclass x=a at*;generalize fclass y=b at*;generalize flt x y=t at*;generalize flt y x=u at*;clear hx hy
 cases t with
 | true=>
  go_enter Tryz.func189,Tryz.ntmps189;go_wp2;go_ret;exact⟨rfl,rfl⟩
 | false=>
  cases u with
  | true=>
   simp only[Bool.false_eq_true,if_false,if_true];go_enter Tryz.func189,Tryz.ntmps189;go_wp2;go_ret;exact⟨rfl,rfl⟩
  | false=>
   simp only[Bool.false_eq_true,if_false];go_enter Tryz.func189,Tryz.ntmps189;go_wp2_with fail;refine(HX.out _).mono ?_;rintro e w1 ⟨rfl,rfl⟩;go_wp2_with fail;refine(HY.out _).mono ?_;rintro e w1 ⟨rfl,rfl⟩;go_wp2_with fail;refine(HC.out _ _ _).mono ?_;rintro e w1 ⟨rfl,rfl⟩;go_wp2;go_ret;exact⟨rfl,rfl⟩
theorem within_of (n l m:Int) (w:World):Calls Tryz.prog 249 #[.int .i64 n,.int .i64 l,.int .i64 m] w (Gives (.bool (decide (l≤n∧n≤m))) w):=by
 by_cases h1:l≤n
 · by_cases h2:n≤m
   · rw[decide_eq_true ⟨h1,h2⟩];go_enter Tryz.func249,Tryz.ntmps249;go_wp2_with fail;go_ret;exact⟨rfl,rfl⟩
   · rw[decide_eq_false (fun h=>h2 h.2)];go_enter Tryz.func249,Tryz.ntmps249;go_wp2_with fail;go_ret;exact⟨rfl,rfl⟩
 · rw[decide_eq_false (fun h=>h1 h.1)];go_enter Tryz.func249,Tryz.ntmps249;go_wp2_with fail;go_ret;exact⟨rfl,rfl⟩
theorem isReg_of (n:Int) (w:World):Calls Tryz.prog 250 #[.int .i64 n] w (Gives (.bool (decide (0≤n∧n≤5))) w):=by
 have HW:=qq (within_of n 0 5 w);go_enter Tryz.func250,Tryz.ntmps250;go_wp2_with fail;refine HW.out.mono ?_;rintro e w1 ⟨rfl,rfl⟩;go_wp2_with fail;go_ret;exact⟨ret_bool (by simp),rfl⟩
theorem isPart_of (n:Int) (w:World):Calls Tryz.prog 251 #[.int .i64 n] w (Gives (.bool (decide (0≤n∧n≤7))) w):=by
 have HW:=qq (within_of n 0 7 w);go_enter Tryz.func251,Tryz.ntmps251;go_wp2_with fail;refine HW.out.mono ?_;rintro e w1 ⟨rfl,rfl⟩;go_wp2_with fail;go_ret;exact⟨ret_bool (by simp),rfl⟩
theorem isState_of (s h:Int) (w:World):Calls Tryz.prog 252 #[.int .i64 s,.int .i64 h] w (Gives (.bool (stOk s h)) w):=by
 have HW:=qq (within_of h 4 8 w);have HX:=qq (within_of s 1 13 w);unfold stOk;by_cases h1:s=14
 · rw[if_pos h1];have e1:(s==14)=true:=by simpa using h1
   by_cases h2:h=1
   · have e2:(h==1)=true:=by simpa using h2
     rw[decide_eq_true (Or.inl h2)];clear h1 h2;go_enter Tryz.func252,Tryz.ntmps252;go_wp2_with fail;go_ret;exact⟨rfl,rfl⟩
   · have e2:(h==1)=false:=by simpa using h2
     have hd:decide (h=1∨4≤h∧h≤8)=decide (4≤h∧h≤8):=decide_eq_decide.2 ⟨fun x=>x.resolve_left h2,Or.inr⟩;rw[hd];clear h1 h2 hd;generalize decide (4≤h∧h≤8)=d at*;go_enter Tryz.func252,Tryz.ntmps252;go_wp2_with fail;refine HW.out.mono ?_;rintro e w1 ⟨rfl,rfl⟩;go_wp2_with fail;go_ret;exact⟨rfl,rfl⟩
 · rw[if_neg h1];have e1:(s==14)=false:=by simpa using h1
   by_cases h2:1≤s∧s≤13
   · rw[decide_eq_true h2] at HX;have hd:decide (1≤s∧s≤13∧h=0)=decide (h=0):=decide_eq_decide.2 ⟨fun x=>x.2.2,fun x=>⟨h2.1,h2.2,x⟩⟩;rw[hd];clear h1 h2 hd;have e2:(h==0)=decide (h=0):=by by_cases h0:h=0<;>simp[h0]
     generalize decide (h=0)=d at*;go_enter Tryz.func252,Tryz.ntmps252;go_wp2_with fail;refine HX.out.mono ?_;rintro e w1 ⟨rfl,rfl⟩;go_wp2_with fail;go_ret;exact⟨rfl,rfl⟩
   · rw[decide_eq_false h2] at HX;have hd:decide (1≤s∧s≤13∧h=0)=false:=decide_eq_false (fun x=>h2 ⟨x.1,x.2.1⟩);rw[hd];clear h1 h2 hd;go_enter Tryz.func252,Tryz.ntmps252;go_wp2_with fail;refine HX.out.mono ?_;rintro e w1 ⟨rfl,rfl⟩;go_wp2_with fail;go_ret;exact⟨rfl,rfl⟩
theorem isOutcome_of (n:Int) (w:World):Calls Tryz.prog 222 #[.int .i64 n] w (Gives (.bool (decide (n=1∨n=2))) w):=by
 by_cases h1:n=1
 · have e1:(n==1)=true:=by simpa using h1
   rw[decide_eq_true (Or.inl h1)];clear h1;go_enter Tryz.func222,Tryz.ntmps222;go_wp2_with fail;go_ret;exact⟨rfl,rfl⟩
 · have e1:(n==1)=false:=by simpa using h1
   have hd:(n==2)=decide (n=1∨n=2):=by
    rw[show decide (n=1∨n=2)=decide (n=2) from decide_eq_decide.2 ⟨fun x=>x.resolve_left h1,Or.inr⟩];by_cases h0:n=2<;>simp[h0]
   clear h1;generalize decide (n=1∨n=2)=d at*;go_enter Tryz.func222,Tryz.ntmps222;go_wp2_with fail;go_ret;exact⟨rfl,rfl⟩
theorem forder_self (x:Nat) (hx:F64 x) (hd:fdelay x=true):(forder (fplain x) x==0)=decide (fplain x=x):=by
 have hn:fnan x=false:=by
  unfold fdelay at hd;simp only[Bool.and_eq_true,Bool.not_eq_true'] at hd;exact hd.1
 unfold fplain;rw[hn];simp only[Bool.false_eq_true,if_false];by_cases h0:x=9223372036854775808
 · subst h0;decide+kernel
 · rw[if_neg h0,decide_eq_true rfl];simp[forder]
theorem scopeRight_of (n q oc dp : Int) (ex : Nat) (hx : F64 ex) (ea : Int → Addr) (w : World) (h : EnvS ea w) :
    Calls Tryz.prog 133 #[.agg #[n,q,oc,dp,flV ex]] w (Makes (.bool (ctxOk n q oc dp ex)) w):=by
 have HK:=qq (Blk.fresh w #[n,q,oc,dp,flV ex] 48 _ rfl);have HB:=qq ((Below.refl w.heap.size w).alloc (Nat.le_refl _) (.cells #[n,q,oc,dp,flV ex] 48));have HE:=qq (h.below HB.out);have HO:=qq (fun W=>forder_of (fplain ex) ex (by unfold fplain;split<;>(try split)<;>first | exact hx | (unfold F64;omega)) hx W);have HI:=qq (fun W hW=>idRight_of n q ea W hW);have HU:=qq (fun W=>isOutcome_of oc W)
 unfold ctxOk
 cases hd:fdelay ex with
 | false=>
  have HD:=qq (fun W (hW:EnvS ea W)=>delay_no ex hx hd (ea 4) W hW.e.e4);clear h hd;go_enter Tryz.func133,Tryz.ntmps133;go_wp2_with fail;refine(HD.out _ HE.out).mono ?_;rintro e w1 ⟨rfl,hb1⟩;go_wp2_with fail;go_ret;exact⟨rfl,below_then HB.out hb1⟩
 | true=>
  have HD:=qq (fun W=>delay_yes ex hx hd W);have hf:=forder_self ex hx hd;clear h hd;obtain⟨o,ho⟩:∃o,o=forder (fplain ex) ex:=⟨_,rfl⟩
  rw[←ho] at HO hf;clear ho;obtain⟨qc,fc⟩:=HK.out.out;by_cases h1:fplain ex=ex
  · rw[decide_eq_true h1] at hf⊢;clear h1
    cases hi:idOk n q
    all_goals rw[hi] at HI
    · clear hi;go_enter Tryz.func133,Tryz.ntmps133;go_wp2_with fail;refine(HD.out _).mono ?_;rintro e w1 ⟨rfl,rfl⟩;go_wp2_with fail;refine(HO.out _).mono ?_;rintro e w1 ⟨rfl,rfl⟩;go_wp2_with fail;refine(HI.out _ HE.out).mono ?_;rintro e w1 ⟨rfl,hb1⟩;clear qc fc;obtain⟨qc,fc⟩:=(HK.out.below hb1).out;go_wp2_with fail;go_ret
      first | exact⟨rfl,below_then HB.out hb1⟩ | exact⟨ret_bool (by simp;omega),below_then HB.out hb1⟩
    · clear hi;by_cases h2:oc=1∨oc=2
      · rw[decide_eq_true h2] at HU;by_cases h3:0≤dp
        · by_cases h4:dp≤3
          · rw[decide_eq_true ⟨h2,h3,h4⟩];clear h2;go_enter Tryz.func133,Tryz.ntmps133;go_wp2_with fail;refine(HD.out _).mono ?_;rintro e w1 ⟨rfl,rfl⟩;go_wp2_with fail;refine(HO.out _).mono ?_;rintro e w1 ⟨rfl,rfl⟩;go_wp2_with fail;refine(HI.out _ HE.out).mono ?_;rintro e w1 ⟨rfl,hb1⟩;clear qc fc;obtain⟨qc,fc⟩:=(HK.out.below hb1).out;go_wp2_with fail;refine(HU.out _).mono ?_;rintro e w2 ⟨rfl,rfl⟩
            go_wp2_with fail;go_ret
            first | exact⟨rfl,below_then HB.out hb1⟩ | exact⟨ret_bool (by simp;omega),below_then HB.out hb1⟩
          · rw[decide_eq_false (fun h=>h4 h.2.2)];clear h2;go_enter Tryz.func133,Tryz.ntmps133;go_wp2_with fail;refine(HD.out _).mono ?_;rintro e w1 ⟨rfl,rfl⟩;go_wp2_with fail;refine(HO.out _).mono ?_;rintro e w1 ⟨rfl,rfl⟩;go_wp2_with fail;refine(HI.out _ HE.out).mono ?_;rintro e w1 ⟨rfl,hb1⟩;clear qc fc;obtain⟨qc,fc⟩:=(HK.out.below hb1).out;go_wp2_with fail;refine(HU.out _).mono ?_
            rintro e w2 ⟨rfl,rfl⟩;go_wp2_with fail;go_ret
            first | exact⟨rfl,below_then HB.out hb1⟩ | exact⟨ret_bool (by simp;omega),below_then HB.out hb1⟩
        · rw[decide_eq_false (fun h=>h3 h.2.1)];clear h2;go_enter Tryz.func133,Tryz.ntmps133;go_wp2_with fail;refine(HD.out _).mono ?_;rintro e w1 ⟨rfl,rfl⟩;go_wp2_with fail;refine(HO.out _).mono ?_;rintro e w1 ⟨rfl,rfl⟩;go_wp2_with fail;refine(HI.out _ HE.out).mono ?_;rintro e w1 ⟨rfl,hb1⟩;clear qc fc;obtain⟨qc,fc⟩:=(HK.out.below hb1).out;go_wp2_with fail;refine(HU.out _).mono ?_
          rintro e w2 ⟨rfl,rfl⟩;go_wp2_with fail;go_ret
          first | exact⟨rfl,below_then HB.out hb1⟩ | exact⟨ret_bool (by simp;omega),below_then HB.out hb1⟩
      · rw[decide_eq_false h2] at HU;rw[decide_eq_false (fun h=>h2 h.1)];clear h2;go_enter Tryz.func133,Tryz.ntmps133;go_wp2_with fail;refine(HD.out _).mono ?_;rintro e w1 ⟨rfl,rfl⟩;go_wp2_with fail;refine(HO.out _).mono ?_;rintro e w1 ⟨rfl,rfl⟩;go_wp2_with fail;refine(HI.out _ HE.out).mono ?_;rintro e w1 ⟨rfl,hb1⟩;clear qc fc;obtain⟨qc,fc⟩:=(HK.out.below hb1).out;go_wp2_with fail
        refine(HU.out _).mono ?_;rintro e w2 ⟨rfl,rfl⟩;go_wp2_with fail;go_ret
        first | exact⟨rfl,below_then HB.out hb1⟩ | exact⟨ret_bool (by simp;omega),below_then HB.out hb1⟩
  · rw[decide_eq_false h1] at hf⊢;clear h1;go_enter Tryz.func133,Tryz.ntmps133;go_wp2_with fail;refine(HD.out _).mono ?_;rintro e w1 ⟨rfl,rfl⟩;go_wp2_with fail;refine(HO.out _).mono ?_;rintro e w1 ⟨rfl,rfl⟩;go_wp2_with fail;go_ret;exact⟨rfl,HB.out⟩
theorem bits_of (x:Nat) (hx:F64 x) (w:World):Calls Tryz.prog 217 #[flV x] w (Gives (.int .u64 (fplain x:Nat)) w):=by
 have HP:=qq (fun W=>plain_of x hx W);have hb:=bits_run (fplain x);go_enter Tryz.func217,Tryz.ntmps217;go_wp2_with fail;refine(HP.out _).mono ?_;rintro e w1 ⟨rfl,rfl⟩;go_wp2_with fail;go_ret;exact⟨rfl,rfl⟩
theorem fl0 (d:Nat) (w:World):(Op.equalIn (d+1) 37 (.float .f64 0) (.float .f64 0)).run Tryz.prog w=.ok true w:=by
 have hz:Op.floatEq FloatKind.f64 0 0=true:=by kernel_rfl
 simp[Op.equalIn,run_underlying Tryz.underlying37,hz]
theorem fl00 (w:World):(Op.equalIn 9999 37 (.float .f64 0) (.float .f64 0)).run Tryz.prog w=.ok true w:=fl0 9998 w
theorem factEq (T : TypeId) (hT : T = 39) (a0 a1 a2 a3 a4 a5 a6 a7 a8 a9 a10 a11 a12 b0 b1 b2 b3 b4 b5 b6 b7 b8 b9 b10 b11 b12 : Int) (w : World) :
    (binOp .eql T (.agg #[a0,a1,a2,a3,a4,a5,a6,a7,a8,a9,a10,a11,a12,.float .f64 0]) (.agg #[b0,b1,b2,b3,b4,b5,b6,b7,b8,b9,b10,b11,b12,.float .f64 0])).run Tryz.prog w=.ok (.bool (a0==b0 && (a1==b1 && (a2==b2 && (a3==b3 && (a4==b4 && (a5==b5 && (a6==b6 && (a7==b7 && (a8==b8 && (a9==b9 && (a10==b10 && (a11==b11 && (a12==b12)))))))))))))) w:=by
 subst hT;have hz:=fl00;go_simp;by_cases h0:a0=b0
 · rw[if_pos h0,beq_iff_eq.2 h0];by_cases h1:a1=b1
   · rw[if_pos h1,beq_iff_eq.2 h1];by_cases h2:a2=b2
     · rw[if_pos h2,beq_iff_eq.2 h2];by_cases h3:a3=b3
       · rw[if_pos h3,beq_iff_eq.2 h3];by_cases h4:a4=b4
         · rw[if_pos h4,beq_iff_eq.2 h4];by_cases h5:a5=b5
           · rw[if_pos h5,beq_iff_eq.2 h5];by_cases h6:a6=b6
             · rw[if_pos h6,beq_iff_eq.2 h6];by_cases h7:a7=b7
               · rw[if_pos h7,beq_iff_eq.2 h7];by_cases h8:a8=b8
                 · rw[if_pos h8,beq_iff_eq.2 h8];by_cases h9:a9=b9
                   · rw[if_pos h9,beq_iff_eq.2 h9];by_cases h10:a10=b10
                     · rw[if_pos h10,beq_iff_eq.2 h10];by_cases h11:a11=b11
                       · rw[if_pos h11,beq_iff_eq.2 h11];by_cases h12:a12=b12<;>simp[h12]
                       · simp[h11]
                     · simp[h10]
                   · simp[h9]
                 · simp[h8]
               · simp[h7]
             · simp[h6]
           · simp[h5]
         · simp[h4]
       · simp[h3]
     · simp[h2]
   · simp[h1]
 · simp[h0]
structure Fld where
 t:Nat
 d:List Nat
def bval (d:List Nat):Nat:=d.foldl (fun n c=>n*256+c) 0
def fldE (bs:List Nat) (last cnt:Nat):Except Int (Fld×List Nat):=match bs with
 | t::a::b::r=>if t≤last∨200<a*256+b∨16≤cnt then .error 4 else if r.length<a*256+b then .error 2 else .ok (⟨t,r.take (a*256+b)⟩,r.drop (a*256+b))
 | _=> .error 2
def splitE:Nat→List Nat→Nat→Nat→Except Int (List Fld)
 | 0,bs,_,_=>if bs=[] then .ok [] else .error 2
 | f+1,bs,last,cnt=>if bs=[] then .ok [] else match fldE bs last cnt with
  | .error e=> .error e
  | .ok (x,rest)=>match splitE f rest x.t (cnt+1) with
   | .error e=> .error e
   | .ok xs=> .ok (x::xs)
def numF (d:List Nat):Option Nat:=if d.head? =some 0 then none else if 8<d.length∨(d.length=8∧127<d.headD 0) then none else some (bval d)
def fltF (d:List Nat):Option Nat:=if d.length≠8 then none else if fplain (bval d)=bval d then some (bval d) else none
def setTag (f:SFact) (t:Nat) (n:Int):SFact:=
 if t=1 then {f with k:=n} else if t=2 then {f with an:=n} else if t=3 then {f with aq:=n} else if t=4 then {f with rg:=n} else if t=5 then {f with nd:=n}
 else if t=6 then {f with pt:=n} else if t=7 then {f with pr:=n} else if t=8 then {f with oc:=n} else if t=9 then {f with dp:=n} else if t=10 then {f with pa:=n}
 else if t=11 then {f with st:=n} else if t=12 then {f with hw:=n} else {f with de:=n}
def fact00:SFact:=⟨0,0,0,0,0,0,0,0,0,0,0,0,0,0⟩
def rdStep (s:SFact×Bool) (x:Fld):Option (SFact×Bool):=
 if x.t=14 then(fltF x.d).map fun u=>({s.1 with ex:=u},true)
 else if 14<x.t∨x.d=[] then none else(numF x.d).map fun(n:Nat)=>(setTag s.1 x.t n,s.2)
def rdAll:SFact×Bool→List Fld→Option (SFact×Bool)
 | s,[]=>some s
 | s,x::t=>match rdStep s x with
  | none=>none
  | some s'=>rdAll s' t
def rdFact (bs:List Nat):Option SFact:=match splitE bs.length bs 0 0 with
 | .error _=>none
 | .ok xs=>match rdAll (fact00,false) xs with
  | none=>none
  | some (f,there)=>if there≠decide (f.k=1)∨fok f=false then none else some f
def sreplay:Sto→List (List Nat)→Option Sto
 | S,[]=>some S
 | S,r::t=>match rdFact r with
  | none=>none
  | some f=>if(sapply S f).2=0 then sreplay (sapply S f).1 t else none
theorem bval_snoc (d:List Nat) (c:Nat):bval (d ++ [c])=bval d*256+c:=by unfold bval;rw[List.foldl_append];rfl
theorem bval_lt (d:List Nat) (h:∀c∈d,c<256):bval d<256 ^ d.length:=by
 have key:∀(l:List Nat) (n:Nat),(∀c∈l,c<256)→l.foldl (fun n c=>n*256+c) n<(n+1)*256 ^ l.length:=by
  intro l
  induction l with
  | nil=>intro n _;simp
  | cons c t ih=>
   intro n hl;have hc:=hl c (by simp);have h1:=ih (n*256+c) (fun x hx=>hl x (List.mem_cons_of_mem _ hx));simp only[List.foldl_cons,List.length_cons,Nat.pow_succ];refine Nat.lt_of_lt_of_le h1 ?_;have h2:n*256+c+1≤(n+1)*256:=by omega
   calc (n*256+c+1)*256 ^ t.length≤((n+1)*256)*256 ^ t.length:=Nat.mul_le_mul_right _ h2
    _=(n+1)*(256 ^ t.length*256):=by rw[Nat.mul_assoc,Nat.mul_comm 256]
 have:=key d 0 h;unfold bval;simpa using this
theorem fldE_len {bs:List Nat} {last cnt:Nat} {x:Fld} {r:List Nat} (h:fldE bs last cnt=.ok (x,r)):r.length+3≤bs.length∧last<x.t∧x.d.length≤200∧cnt<16:=by
 unfold fldE at h;split at h
 · split at h
   · cases h
   · split at h
     · cases h
     · injection h with h
       injection h with h1 h2
       subst h1 h2
       rename_i t a b r hn _
       simp only[List.length_drop,List.length_cons,List.length_take];have hn1:=not_or.1 hn;have hn2:=not_or.1 hn1.2;omega
 · cases h
theorem fldE_in {bs:List Nat} {last cnt:Nat} {x:Fld} {r:List Nat} (h:fldE bs last cnt=.ok (x,r)) (hb:∀c∈bs,c<256):x.t<256∧(∀c∈x.d,c<256)∧∀c∈r,c<256:=by
 unfold fldE at h;split at h
 · split at h
   · cases h
   · split at h
     · cases h
     · injection h with h
       injection h with h1 h2
       subst h1 h2;refine⟨hb _ (by simp),fun c hc=>hb c (List.mem_cons_of_mem _ (List.mem_cons_of_mem _ (List.mem_cons_of_mem _ (List.mem_of_mem_take hc)))),fun c hc=>hb c (List.mem_cons_of_mem _ (List.mem_cons_of_mem _ (List.mem_cons_of_mem _ (List.mem_of_mem_drop hc))))⟩
 · cases h
theorem splitE_fuel:∀(f g:Nat) (bs:List Nat) (last cnt:Nat),bs.length≤f→bs.length≤g→splitE f bs last cnt=splitE g bs last cnt
 | 0,g,bs,last,cnt,hf,_=>by
  have:bs=[]:=List.length_eq_zero_iff.1 (by omega);subst this
  cases g<;>simp[splitE]
 | f+1,0,bs,last,cnt,_,hg=>by
  have:bs=[]:=List.length_eq_zero_iff.1 (by omega);subst this;simp[splitE]
 | f+1,g+1,bs,last,cnt,hf,hg=>by
  unfold splitE;by_cases h0:bs=[]
  · rw[if_pos h0,if_pos h0]
  · rw[if_neg h0,if_neg h0]
    cases hx:fldE bs last cnt with
    | error e=>rfl
    | ok p=>
     obtain⟨x,rest⟩:=p;have:=(fldE_len hx).1;simp only;rw[splitE_fuel f g rest x.t (cnt+1) (by omega) (by omega)]
theorem splitE_all:∀(f:Nat) (bs:List Nat) (last cnt:Nat) (xs:List Fld),splitE f bs last cnt=.ok xs→(∀c∈bs,c<256)→cnt≤16→xs.length+cnt≤16∧∀x∈xs,1≤x.t∧x.t<256∧x.d.length≤200∧∀c∈x.d,c<256
 | 0,bs,last,cnt,xs,h,_,hc=>by
  unfold splitE at h;split at h
  · injection h with h;subst h;exact⟨by simpa using hc,by simp⟩
  · cases h
 | f+1,bs,last,cnt,xs,h,hb,hc=>by
  unfold splitE at h;split at h
  · injection h with h;subst h;exact⟨by simpa using hc,by simp⟩
  · cases hx:fldE bs last cnt with
    | error e=>rw[hx] at h;cases h
    | ok p=>
     obtain⟨x,rest⟩:=p;rw[hx] at h;simp only at h
     cases hr:splitE f rest x.t (cnt+1) with
     | error e=>rw[hr] at h;cases h
     | ok ys=>
      rw[hr] at h;injection h with h
      subst h;have h1:=fldE_len hx;have h2:=fldE_in hx hb;have h3:=splitE_all f rest x.t (cnt+1) ys hr h2.2.2 (by omega);refine⟨by simp only[List.length_cons];omega,fun y hy=> ?_⟩;rcases List.mem_cons.1 hy with rfl | hy
      · exact⟨by omega,h2.1,h1.2.2.1,h2.2.1⟩
      · exact h3.2 y hy
theorem Blk.same {w w':World} {b:Nat} {C:Array Value} (h:Blk w b C) (hz:w.heap.size≤w'.heap.size) (he:w'.heap[b]? =w.heap[b]?):Blk w' b C:=
 ⟨Nat.lt_of_lt_of_le h.lt hz,fun i=>(World.cell?_of_block (w:=w) (a:=⟨b,i,none⟩) he).trans (h.cell i),fun i=>(World.frozen?_of_block (w:=w) (a:=⟨b,i,none⟩) he).trans (h.free i)⟩
theorem row_heap {w w':World} {B:Nat} {e:TypeId} {size:Nat} {v:Value} {n:Nat} {xs:List Value} (h:w.ownsRow B e size v n xs) (he:∀k,v.ownBlock=some k→w'.heap[k]? =w.heap[k]?):w'.ownsRow B e size v n xs:=by
 refine⟨h.1,?_⟩;rcases h.2 with hn | ⟨g,cap,cur,rfl,hb,hg,r⟩
 · exact .inl hn
 · exact .inr ⟨g,cap,cur,rfl,hb,(he g rfl).trans hg,r⟩
theorem row_slice {w:World} {B:Nat} {e:TypeId} {size:Nat} {v:Value} {n:Nat} {xs:List Value} (h:w.ownsRow B e size v n xs):∃a cap,v=.slice a n cap:=by
 rcases h.2 with⟨rfl,rfl⟩ | ⟨g,cap,cur,rfl,_⟩
 · exact⟨_,_,rfl⟩
 · exact⟨_,_,rfl⟩
theorem row_form {w : World} {B : Nat} {e : TypeId} {size : Nat} {v : Value} {n : Nat} {xs : List Value} (h : w.ownsRow B e size v n xs) (hn : 0 < n) :
    ∃g cap,v=.slice (some ⟨g,0,none⟩) n cap∧n≤cap∧cap≤maxLen∧g<w.heap.size∧(∀i u,xs[i]? =some u→w.cell? ⟨g,i,none⟩=some u)∧∀i,w.frozen? ⟨g,i,none⟩=false:=by
 rcases h.2 with⟨rfl,rfl⟩ | ⟨g,cap,cur,rfl,hb,hg,hc,hm,hs,ht⟩
 · omega
 · refine⟨g,cap,rfl,hc,hm,(Array.getElem?_eq_some_iff.1 hg).1,fun i u hu=> ?_,fun i=>by simp[World.frozen?,hg]⟩;have:=h.cells (g:=g) rfl i u hu;rwa[Addr.add_lit,Nat.zero_add] at this
theorem row_set {w:World} {B:Nat} {e:TypeId} {size g cap n:Nat} {xs:List Value} (h:w.ownsRow B e size (.slice (some ⟨g,0,none⟩) n cap) n xs) (i:Nat) (x:Value) (hi:i<n*size):(w.setCell ⟨g,i,none⟩ x).ownsRow B e size (.slice (some ⟨g,0,none⟩) n cap) n (xs.set i x):=by
 refine⟨by rw[List.length_set];exact h.1,?_⟩;rcases h.2 with⟨hv,_⟩ | ⟨g',cap',cur,hv,hb,hg,hc,hm,hs,ht⟩
 · cases hv
 · obtain⟨rfl,rfl⟩:g=g'∧cap=cap':=by simp at hv;exact hv
   refine .inr ⟨g,cap,cur.setIfInBounds i x,rfl,hb,?_,hc,hm,by simpa using hs,?_⟩
   · rw[setCell_eq_setRow w g i cur e (0,0) x hg];exact setRow_heap w g cur _ e _ hg
   · rw[Array.toList_setIfInBounds,List.take_set,ht]
theorem row_take {w:World} {B:Nat} {e:TypeId} {size g cap n:Nat} {xs:List Value} (h:w.ownsRow B e size (.slice (some ⟨g,0,none⟩) n cap) n xs) (m:Nat) (hm:m≤n):w.ownsRow B e size (.slice (some ⟨g,0,none⟩) m cap) m (xs.take (m*size)):=by
 have hl:=h.1;refine⟨by rw[List.length_take,hl];exact Nat.min_eq_left (Nat.mul_le_mul_right _ hm),?_⟩;rcases h.2 with⟨hv,_⟩ | ⟨g',cap',cur,hv,hb,hg,hc,hmx,hs,ht⟩
 · cases hv
 · obtain⟨rfl,rfl⟩:g=g'∧cap=cap':=by simp at hv;exact hv
   exact .inr ⟨g,cap,cur,rfl,hb,hg,by omega,hmx,hs,by rw[←ht,List.take_take,Nat.min_eq_left (Nat.mul_le_mul_right _ hm)]⟩
structure Goes (F F':List Nat) (w w':World):Prop where
 os:w'.os=w.os
 tape:w'.tape=w.tape
 output:w'.output=w.output
 size:w.heap.size≤w'.heap.size
 block:∀k,k<w.heap.size→k∉F→w'.heap[k]? =w.heap[k]?
 new:∀k∈F',k∈F∨w.heap.size≤k
theorem Goes.same {F F':List Nat} {w w':World} (hb:Below w.heap.size w w') (h:∀k∈F',k∈F):Goes F F' w w':=⟨hb.os,hb.tape,hb.output,hb.size,fun k hk _=>hb.block k hk,fun k hk=> .inl (h k hk)⟩
theorem Goes.of_below {F:List Nat} {w w':World} (hb:Below w.heap.size w w'):Goes F F w w':=.same hb (fun _ h=>h)
theorem Goes.trans {F F' F'':List Nat} {w w1 w2:World} (h1:Goes F F' w w1) (h2:Goes F' F'' w1 w2):Goes F F'' w w2:=by
 refine⟨h2.os.trans h1.os,h2.tape.trans h1.tape,h2.output.trans h1.output,Nat.le_trans h1.size h2.size,fun k hk hF=> ?_,fun k hk=> ?_⟩
 · refine(h2.block k (Nat.lt_of_lt_of_le hk h1.size) (fun h=> ?_)).trans (h1.block k hk hF);rcases h1.new k h with h | h
   · exact hF h
   · omega
 · rcases h2.new k hk with h | h
   · exact h1.new k h
   · exact .inr (Nat.le_trans h1.size h)
theorem Goes.then_below {F F':List Nat} {w w1 w2:World} (h1:Goes F F' w w1) (hb:Below w1.heap.size w1 w2):Goes F F' w w2:=h1.trans (.of_below hb)
theorem Goes.after {F F':List Nat} {w w1 w2:World} (hb:Below w.heap.size w w1) (h1:Goes F F' w1 w2):Goes F F' w w2:=(Goes.of_below hb).trans h1
theorem Goes.below {F F':List Nat} {B:Nat} {w w':World} (h:Goes F F' w w') (hF:∀k∈F,B≤k) (hB:B≤w.heap.size):Below B w w':=
 ⟨h.os,h.tape,h.output,h.size,fun k hk=>h.block k (by omega) (fun hf=>by have:=hF k hf;omega)⟩
theorem Goes.setCell {F:List Nat} {w:World} (g i:Nat) (v:Value) (h:g∈F):Goes F F w (w.setCell ⟨g,i,none⟩ v):=
 ⟨rfl,rfl,rfl,by simp,fun k _ hk=>Below.heap_setCell w ⟨g,i,none⟩ v k (fun e=>hk (by rw[e];exact h)),fun _ h=> .inl h⟩
theorem Goes.grown {F:List Nat} {w w':World} {row:Option Nat} (hg:w.grownBy w' row) (h:∀k,row=some k→k∈F):Goes F F w w':=
 ⟨hg.os,hg.tape,hg.output,hg.size,fun k hk hF=>hg.block k hk (fun e=>hF (h k e.symm)),fun _ h=> .inl h⟩
theorem Goes.change {F F' F'':List Nat} {w w':World} (h:Goes F F' w w') (hn:∀k∈F'',k∈F∨w.heap.size≤k):Goes F F'' w w':=⟨h.os,h.tape,h.output,h.size,h.block,hn⟩
theorem Goes.apart {F F' G:List Nat} {w w':World} (h:Goes F F' w w') (ha:∀k∈F,k∉G) (hG:∀k∈G,k<w.heap.size):∀k∈F',k∉G:=fun k hk hg=>by
 rcases h.new k hk with h | h
 · exact ha k h hg
 · have:=hG k hg;omega
theorem Goes.keep {F F' G:List Nat} {w w':World} (h:Goes F F' w w') (ha:∀k∈F,k∉G) (hG:∀k∈G,k<w.heap.size):∀k∈G,w'.heap[k]? =w.heap[k]? :=fun k hk=>h.block k (hG k hk) (fun hf=>ha k hf hk)
def regL (r:SReg):List Value:=[.int .i64 r.n,.int .i64 r.p,.int .i64 r.seat.p,.int .i64 r.seat.d,.int .i64 r.seat.s,.int .i64 r.seat.h]
def regsL (rs:List SReg):List Value:=rs.flatMap regL
def partL (p:SPart):List Value:=[.int .i64 p.an,.int .i64 p.aq,.int .i64 p.rg,.int .i64 p.seat.p,.int .i64 p.seat.d,.int .i64 p.seat.s,.int .i64 p.seat.h]
def partsL (ps:List SPart):List Value:=ps.flatMap partL
def actL (a:SAct) (v:Value):List Value:=[.int .i64 a.an,.int .i64 a.aq,.int .i64 a.oc,.int .i64 a.dp,.float .f64 a.ex,.int .i64 a.pa,.int .i64 a.de,v]
theorem flat_length {α:Type} (f:α→List Value) (k:Nat) (hf:∀a,(f a).length=k) (l:List α):(l.flatMap f).length=l.length*k:=by
 induction l with
 | nil=>simp
 | cons a t ih=>simp only[List.flatMap_cons,List.length_append,List.length_cons,ih,hf];rw[Nat.add_mul];omega
theorem flat_at {α:Type} (f:α→List Value) (k:Nat) (hf:∀a,(f a).length=k) (l:List α) (i j:Nat) (hi:i<l.length) (hj:j<k):(l.flatMap f)[i*k+j]? =(f l[i])[j]? :=by
 induction l generalizing i with
 | nil=>simp at hi
 | cons a t ih=>
  rw[List.flatMap_cons]
  match i with
  | 0=>rw[List.getElem?_append_left (by rw[hf];omega)];simp
  | i+1=>
   rw[List.getElem?_append_right (by rw[hf,Nat.add_mul];omega),hf];have e:(i+1)*k+j - k=i*k+j:=by rw[Nat.add_mul];omega
   rw[e];simpa using ih i (by simpa using hi)
theorem flat_set {α:Type} (f:α→List Value) (k:Nat) (hf:∀a,(f a).length=k) (l:List α) (i j:Nat) (hi:i<l.length) (hj:j<k) (x:Value) (b:α) (hb:f b=(f l[i]).set j x):(l.flatMap f).set (i*k+j) x=(l.set i b).flatMap f:=by
 induction l generalizing i with
 | nil=>simp at hi
 | cons a t ih=>
  rw[List.flatMap_cons]
  match i with
  | 0=>
   simp only[Nat.zero_mul,Nat.zero_add,List.set_cons_zero,List.flatMap_cons];rw[List.set_append_left _ _ (by rw[hf];omega),hb];rfl
  | i+1=>
   rw[List.set_append_right _ _ (by rw[hf,Nat.add_mul];omega),hf];have e:(i+1)*k+j - k=i*k+j:=by rw[Nat.add_mul];omega
   rw[e];simp only[List.set_cons_succ,List.flatMap_cons];rw[ih i (by simpa using hi) (by simpa using hb)]
theorem flat_take {α:Type} (f:α→List Value) (k:Nat) (hf:∀a,(f a).length=k) (l:List α) (m:Nat):(l.flatMap f).take (m*k)=(l.take m).flatMap f:=by
 induction l generalizing m with
 | nil=>simp
 | cons a t ih=>
  match m with
  | 0=>simp
  | m+1=>
   rw[List.flatMap_cons,List.take_succ_cons,List.flatMap_cons,List.take_append,hf,List.take_of_length_le (by rw[hf,Nat.add_mul];omega)];have e:(m+1)*k - k=m*k:=by rw[Nat.add_mul];omega
   rw[e,ih]
theorem flat_drop {α:Type} (f:α→List Value) (k:Nat) (hf:∀a,(f a).length=k) (l:List α) (m:Nat):(l.flatMap f).drop (m*k)=(l.drop m).flatMap f:=by
 induction l generalizing m with
 | nil=>simp
 | cons a t ih=>
  match m with
  | 0=>simp
  | m+1=>
   rw[List.flatMap_cons,List.drop_succ_cons,List.drop_append,hf,List.drop_of_length_le (by rw[hf,Nat.add_mul];omega)];have e:(m+1)*k - k=m*k:=by rw[Nat.add_mul];omega
   rw[e,ih,List.nil_append]
theorem flat_one {α:Type} (f:α→List Value) (hf:∀a,∀u∈f a,u.oneCell'=true) (l:List α):∀u∈l.flatMap f,u.oneCell'=true:=by
 intro u hu;obtain⟨a,_,h⟩:=List.mem_flatMap.1 hu;exact hf a u h
theorem regL_len (r:SReg):(regL r).length=6:=rfl
theorem partL_len (p:SPart):(partL p).length=7:=rfl
theorem regL_one (r:SReg):∀u∈regL r,u.oneCell'=true:=by
 intro u hu;simp only[regL,List.mem_cons,List.not_mem_nil,or_false] at hu;rcases hu with rfl | rfl | rfl | rfl | rfl | rfl<;>rfl
theorem partL_one (p:SPart):∀u∈partL p,u.oneCell'=true:=by
 intro u hu;simp only[partL,List.mem_cons,List.not_mem_nil,or_false] at hu;rcases hu with rfl | rfl | rfl | rfl | rfl | rfl | rfl<;>rfl
abbrev actC (a:SAct) (v:Value):Array Value:= #[.int .i64 a.an,.int .i64 a.aq,.int .i64 a.oc,.int .i64 a.dp,.float .f64 a.ex,.int .i64 a.pa,.int .i64 a.de,v]
structure SLoc where
 sb:Nat
 av:Value
 pv:Value
 ab:List (Nat×Value)
def blocks (ab:List (Nat×Value)):List Nat:=ab.flatMap fun x=>x.1::x.2.ownBlock.toList
def SLoc.foot (L:SLoc):List Nat:=L.sb::(L.av.ownBlock.toList ++(L.pv.ownBlock.toList ++blocks L.ab))
abbrev ptrs (ab:List (Nat×Value)):List Value:=ab.map fun x=> .pointer (some ⟨x.1,0,none⟩)
structure StoreAt (L:SLoc) (S:Sto) (w:World):Prop where
 blk:Blk w L.sb #[S.node,S.next,L.av,L.pv]
 acts:w.ownsRow 0 159 1 L.av S.acts.length (ptrs L.ab)
 parts:w.ownsRow 0 61 7 L.pv S.parts.length (partsL S.parts)
 act:∀(i:Nat) (x:Nat×Value) (a:SAct),L.ab[i]? =some x→S.acts[i]? =some a→Blk w x.1 (actC a x.2)∧w.ownsRow 0 55 6 x.2 a.regs.length (regsL a.regs)
 once:L.foot.Nodup
theorem StoreAt.len {L:SLoc} {S:Sto} {w:World} (h:StoreAt L S w):L.ab.length=S.acts.length:=by
 have:=h.acts.1;simpa using this
theorem mem_blocks {ab:List (Nat×Value)} {k:Nat}:k∈blocks ab↔∃(i:Nat) (x:Nat×Value),ab[i]? =some x∧(k=x.1∨x.2.ownBlock=some k):=by
 unfold blocks;rw[List.mem_flatMap];constructor
 · rintro⟨x,hx,hk⟩;obtain⟨i,hi⟩:=List.getElem?_of_mem hx;refine⟨i,x,hi,?_⟩;rcases List.mem_cons.1 hk with h | h
   · exact .inl h
   · exact .inr (by simpa using h)
 · rintro⟨i,x,hi,hk⟩;refine⟨x,List.mem_of_getElem? hi,?_⟩;rcases hk with h | h
   · exact List.mem_cons.2 (.inl h)
   · exact List.mem_cons.2 (.inr (by simpa using h))
theorem SLoc.mem {L:SLoc} {k:Nat}:k∈L.foot↔k=L.sb∨L.av.ownBlock=some k∨L.pv.ownBlock=some k∨k∈blocks L.ab:=by
 unfold SLoc.foot;simp[List.mem_append]
theorem StoreAt.lt {L:SLoc} {S:Sto} {w:World} (h:StoreAt L S w):∀k∈L.foot,k<w.heap.size:=by
 intro k hk;rcases SLoc.mem.1 hk with rfl | hk | hk | hk
 · exact h.blk.lt
 · exact(h.acts.lt k hk).2
 · exact(h.parts.lt k hk).2
 · obtain⟨i,x,hi,hk⟩:=mem_blocks.1 hk;have hl:=(List.getElem?_eq_some_iff.1 hi).1;rw[h.len] at hl;obtain⟨h1,h2⟩:=h.act i x _ hi (List.getElem?_eq_getElem hl);rcases hk with rfl | hk
   · exact h1.lt
   · exact(h2.lt k hk).2
theorem StoreAt.keep {L:SLoc} {S:Sto} {w w':World} (h:StoreAt L S w) (hz:w.heap.size≤w'.heap.size) (he:∀k∈L.foot,w'.heap[k]? =w.heap[k]?):StoreAt L S w':=by
 refine⟨h.blk.same hz (he _ (SLoc.mem.2 (.inl rfl))),row_heap h.acts (fun k hk=>he k (SLoc.mem.2 (.inr (.inl hk)))),row_heap h.parts (fun k hk=>he k (SLoc.mem.2 (.inr (.inr (.inl hk))))),fun i x a hx ha=> ?_,h.once⟩;obtain⟨h1,h2⟩:=h.act i x a hx ha
 exact⟨h1.same hz (he _ (SLoc.mem.2 (.inr (.inr (.inr (mem_blocks.2 ⟨i,x,hx,.inl rfl⟩)))))),row_heap h2 (fun k hk=>he k (SLoc.mem.2 (.inr (.inr (.inr (mem_blocks.2 ⟨i,x,hx,.inr hk⟩))))))⟩
theorem StoreAt.below {L:SLoc} {S:Sto} {w w':World} (h:StoreAt L S w) (hb:Below w.heap.size w w'):StoreAt L S w':=h.keep hb.size (fun k hk=>hb.block k (h.lt k hk))
def SGoes (L:SLoc) (S':Sto) (w w':World):Prop:=∃L',L'.sb=L.sb∧StoreAt L' S' w'∧Goes L.foot L'.foot w w'
theorem SGoes.same {L:SLoc} {S:Sto} {w w':World} (h:StoreAt L S w) (hb:Below w.heap.size w w'):SGoes L S w w':=⟨L,rfl,h.below hb,.of_below hb⟩
theorem SGoes.after {L:SLoc} {S:Sto} {w w1 w':World} (hb:Below w.heap.size w w1) (h:SGoes L S w1 w'):SGoes L S w w':=by
 obtain⟨L',h1,h2,h3⟩:=h;exact⟨L',h1,h2,.after hb h3⟩
theorem SGoes.then_below {L:SLoc} {S:Sto} {w w1 w':World} (h:SGoes L S w w1) (hb:Below w1.heap.size w1 w'):SGoes L S w w':=by
 obtain⟨L',h1,h2,h3⟩:=h;exact⟨L',h1,h2.below hb,h3.then_below hb⟩
theorem StoreAt.ne_act {L:SLoc} {S:Sto} {w:World} (h:StoreAt L S w) {i:Nat} {x:Nat×Value} (hx:L.ab[i]? =some x):x.1≠L.sb∧L.av.ownBlock≠some x.1∧L.pv.ownBlock≠some x.1∧x.2.ownBlock≠some x.1∧x.2.ownBlock≠some L.sb∧(∀k,x.2.ownBlock=some k→L.av.ownBlock≠some k∧L.pv.ownBlock≠some k):=by
 have ho:=h.once;unfold SLoc.foot at ho;rw[List.nodup_cons,List.nodup_append,List.nodup_append] at ho;obtain⟨h1,_,⟨_,h3,h4⟩,h5⟩:=ho;have hb1:x.1∈blocks L.ab:=mem_blocks.2 ⟨i,x,hx,.inl rfl⟩;have hb2:∀k,x.2.ownBlock=some k→k∈blocks L.ab:=fun k hk=>mem_blocks.2 ⟨i,x,hx,.inr hk⟩
 have hself:x.2.ownBlock≠some x.1:=by
  intro e;have hm:=List.mem_of_getElem? hx;unfold blocks at h3;have hs:(x.1::x.2.ownBlock.toList).Sublist (L.ab.flatMap fun x=>x.1::x.2.ownBlock.toList):=by
   obtain⟨l1,l2,hl⟩:=List.append_of_mem hm;rw[hl,List.flatMap_append,List.flatMap_cons];exact(List.sublist_append_left _ _).trans (List.sublist_append_right _ _)
  have hn:=h3.sublist hs;rw[e] at hn;simp at hn
 refine⟨fun e=>h1 ?_,fun e=> ?_,fun e=> ?_,hself,fun e=>h1 ?_,fun k hk=>⟨fun e=> ?_,fun e=> ?_⟩⟩
 · rw[←e];simp[hb1]
 · exact h5 x.1 (by simp[e]) x.1 (by simp[hb1]) rfl
 · exact h4 x.1 (by simp[e]) x.1 hb1 rfl
 · have:=hb2 _ e;simp[this]
 · exact h5 k (by simp[e]) k (by simp[hb2 k hk]) rfl
 · exact h4 k (by simp[e]) k (hb2 k hk) rfl
theorem StoreAt.ne_top {L:SLoc} {S:Sto} {w:World} (h:StoreAt L S w):L.av.ownBlock≠some L.sb∧L.pv.ownBlock≠some L.sb∧(∀k,L.av.ownBlock=some k→L.pv.ownBlock≠some k):=by
 have ho:=h.once;unfold SLoc.foot at ho;rw[List.nodup_cons,List.nodup_append] at ho;obtain⟨h1,_,_,h5⟩:=ho;exact⟨fun e=>h1 (by simp[e]),fun e=>h1 (by simp[e]),fun k hk e=>h5 k (by simp[hk]) k (by simp[e]) rfl⟩
theorem StoreAt.ne_two {L:SLoc} {S:Sto} {w:World} (h:StoreAt L S w) {i j:Nat} {x y:Nat×Value} (hx:L.ab[i]? =some x) (hy:L.ab[j]? =some y) (hij:i≠j):∀k,(k=x.1∨x.2.ownBlock=some k)→¬(k=y.1∨y.2.ownBlock=some k):=by
 have ho:=h.once;unfold SLoc.foot at ho;rw[List.nodup_cons,List.nodup_append,List.nodup_append] at ho;have h3:=ho.2.2.1.2.1;clear ho;intro k hk1 hk2;have key:∀(ab:List (Nat×Value)) (i j:Nat),(blocks ab).Nodup→ab[i]? =some x→ab[j]? =some y→i<j→False:=by
  intro ab
  induction ab with
  | nil=>intro i j _ h;simp at h
  | cons z t ih=>
   intro i j hn h1 h2 hlt;unfold blocks at hn;rw[List.flatMap_cons,List.nodup_append] at hn
   match i,j,hlt with
   | 0,j+1,_=>
    simp at h1 h2;subst h1;refine hn.2.2 k ?_ k ?_ rfl
    · rcases hk1 with h | h
      · exact List.mem_cons.2 (.inl h)
      · exact List.mem_cons.2 (.inr (by simpa using h))
    · exact mem_blocks.2 ⟨j,y,h2,hk2⟩
   | i+1,j+1,hlt=>exact ih i j hn.2.1 (by simpa using h1) (by simpa using h2) (by omega)
 have key2:∀(ab:List (Nat×Value)) (i j:Nat),(blocks ab).Nodup→ab[i]? =some x→ab[j]? =some y→j<i→False:=by
  intro ab
  induction ab with
  | nil=>intro i j _ h;simp at h
  | cons z t ih=>
   intro i j hn h1 h2 hlt;unfold blocks at hn;rw[List.flatMap_cons,List.nodup_append] at hn
   match i,j,hlt with
   | i+1,0,_=>
    simp at h1 h2;subst h2;refine hn.2.2 k ?_ k ?_ rfl
    · rcases hk2 with h | h
      · exact List.mem_cons.2 (.inl h)
      · exact List.mem_cons.2 (.inr (by simpa using h))
    · exact mem_blocks.2 ⟨i,x,h1,hk1⟩
   | i+1,j+1,hlt=>exact ih i j hn.2.1 (by simpa using h1) (by simpa using h2) (by omega)
 rcases Nat.lt_or_gt_of_ne hij with h | h
 · exact key _ i j h3 hx hy h
 · exact key2 _ i j h3 hx hy h
def oix:Option Nat→Int
 | some i=>i
 | none=> -1
def RegC (w:World) (b o:Nat) (r:SReg):Prop:=w.cell? ⟨b,o,none⟩=some (.int .i64 r.n)∧w.cell? ⟨b,o+1,none⟩=some (.int .i64 r.p)∧w.cell? ⟨b,o+2,none⟩=some (.int .i64 r.seat.p)∧w.cell? ⟨b,o+3,none⟩=some (.int .i64 r.seat.d)∧w.cell? ⟨b,o+4,none⟩=some (.int .i64 r.seat.s)∧w.cell? ⟨b,o+5,none⟩=some (.int .i64 r.seat.h)
theorem RegC.below {w w':World} {b o:Nat} {r:SReg} (h:RegC w b o r) (hb:Below w.heap.size w w') (hl:b<w.heap.size):RegC w' b o r:=
 ⟨(hb.cell (p:=⟨b,o,none⟩) hl).trans h.1,(hb.cell (p:=⟨b,o+1,none⟩) hl).trans h.2.1,(hb.cell (p:=⟨b,o+2,none⟩) hl).trans h.2.2.1,(hb.cell (p:=⟨b,o+3,none⟩) hl).trans h.2.2.2.1,(hb.cell (p:=⟨b,o+4,none⟩) hl).trans h.2.2.2.2.1,(hb.cell (p:=⟨b,o+5,none⟩) hl).trans h.2.2.2.2.2⟩
def PartC (w:World) (b o:Nat) (p:SPart):Prop:=w.cell? ⟨b,o,none⟩=some (.int .i64 p.an)∧w.cell? ⟨b,o+1,none⟩=some (.int .i64 p.aq)∧w.cell? ⟨b,o+2,none⟩=some (.int .i64 p.rg)∧w.cell? ⟨b,o+3,none⟩=some (.int .i64 p.seat.p)∧w.cell? ⟨b,o+4,none⟩=some (.int .i64 p.seat.d)∧w.cell? ⟨b,o+5,none⟩=some (.int .i64 p.seat.s)∧w.cell? ⟨b,o+6,none⟩=some (.int .i64 p.seat.h)
theorem PartC.below {w w':World} {b o:Nat} {p:SPart} (h:PartC w b o p) (hb:Below w.heap.size w w') (hl:b<w.heap.size):PartC w' b o p:=
 ⟨(hb.cell (p:=⟨b,o,none⟩) hl).trans h.1,(hb.cell (p:=⟨b,o+1,none⟩) hl).trans h.2.1,(hb.cell (p:=⟨b,o+2,none⟩) hl).trans h.2.2.1,(hb.cell (p:=⟨b,o+3,none⟩) hl).trans h.2.2.2.1,(hb.cell (p:=⟨b,o+4,none⟩) hl).trans h.2.2.2.2.1,(hb.cell (p:=⟨b,o+5,none⟩) hl).trans h.2.2.2.2.2.1,(hb.cell (p:=⟨b,o+6,none⟩) hl).trans h.2.2.2.2.2.2⟩
theorem reg_row {w : World} {B : Nat} {T : TypeId} {v : Value} {n : Nat} {rs : List SReg} (h : w.ownsRow B T 6 v n (regsL rs)) :
    ∃a cap,v=.slice a n cap∧rs.length=n∧(0<n→∃g,a=some ⟨g,0,none⟩∧g<w.heap.size∧(∀i,w.frozen? ⟨g,i,none⟩=false)∧∀(j:Nat) (r:SReg),rs[j]? =some r→RegC w g (j*6) r):=by
 have hn:rs.length=n:=by have:=h.1;unfold regsL at this;rw[flat_length _ 6 regL_len] at this;omega
 obtain⟨a,cap,rfl⟩:=row_slice h;refine⟨a,cap,rfl,hn,fun h0=> ?_⟩;obtain⟨g,cap',he,_,_,hg,hc,hf⟩:=row_form h h0;obtain⟨rfl,_⟩:a=some ⟨g,0,none⟩∧cap=cap':=by simpa using he
 refine⟨g,rfl,hg,hf,fun j r hr=> ?_⟩;obtain⟨hj,rfl⟩:=List.getElem?_eq_some_iff.1 hr;have hat:=fun k hk=>flat_at regL 6 regL_len rs j k hj hk
 refine⟨hc _ _ ?_,hc _ _ ?_,hc _ _ ?_,hc _ _ ?_,hc _ _ ?_,hc _ _ ?_⟩
 · exact hat 0 (by decide)
 · exact hat 1 (by decide)
 · exact hat 2 (by decide)
 · exact hat 3 (by decide)
 · exact hat 4 (by decide)
 · exact hat 5 (by decide)
theorem part_row {w : World} {B : Nat} {T : TypeId} {v : Value} {n : Nat} {ps : List SPart} (h : w.ownsRow B T 7 v n (partsL ps)) :
    ∃a cap,v=.slice a n cap∧ps.length=n∧(0<n→∃g,a=some ⟨g,0,none⟩∧g<w.heap.size∧(∀i,w.frozen? ⟨g,i,none⟩=false)∧∀(j:Nat) (p:SPart),ps[j]? =some p→PartC w g (j*7) p):=by
 have hn:ps.length=n:=by have:=h.1;unfold partsL at this;rw[flat_length _ 7 partL_len] at this;omega
 obtain⟨a,cap,rfl⟩:=row_slice h;refine⟨a,cap,rfl,hn,fun h0=> ?_⟩;obtain⟨g,cap',he,_,_,hg,hc,hf⟩:=row_form h h0;obtain⟨rfl,_⟩:a=some ⟨g,0,none⟩∧cap=cap':=by simpa using he
 refine⟨g,rfl,hg,hf,fun j r hr=> ?_⟩;obtain⟨hj,rfl⟩:=List.getElem?_eq_some_iff.1 hr;have hat:=fun k hk=>flat_at partL 7 partL_len ps j k hj hk
 refine⟨hc _ _ ?_,hc _ _ ?_,hc _ _ ?_,hc _ _ ?_,hc _ _ ?_,hc _ _ ?_,hc _ _ ?_⟩
 · exact hat 0 (by decide)
 · exact hat 1 (by decide)
 · exact hat 2 (by decide)
 · exact hat 3 (by decide)
 · exact hat 4 (by decide)
 · exact hat 5 (by decide)
 · exact hat 6 (by decide)
theorem ptr_row {w : World} {B : Nat} {T : TypeId} {v : Value} {n : Nat} {ab : List (Nat × Value)} (h : w.ownsRow B T 1 v n (ptrs ab)) :
    ∃a cap,v=.slice a n cap∧ab.length=n∧(0<n→∃g,a=some ⟨g,0,none⟩∧g<w.heap.size∧(∀i,w.frozen? ⟨g,i,none⟩=false)∧∀(j:Nat) (x:Nat×Value),ab[j]? =some x→w.cell? ⟨g,j,none⟩=some (.pointer (some ⟨x.1,0,none⟩))):=by
 have hn:ab.length=n:=by have:=h.1;simpa using this
 obtain⟨a,cap,rfl⟩:=row_slice h;refine⟨a,cap,rfl,hn,fun h0=> ?_⟩;obtain⟨g,cap',he,_,_,hg,hc,hf⟩:=row_form h h0;obtain⟨rfl,_⟩:a=some ⟨g,0,none⟩∧cap=cap':=by simpa using he
 exact⟨g,rfl,hg,hf,fun j x hx=>hc j _ (by rw[List.getElem?_map,hx];rfl)⟩
theorem find_hit {α:Type} {l:List α} {q:α→Bool} {k:Nat} (hk:k<l.length) (hn:∀(j:Nat) (h:j<l.length),j<k→q l[j]=false) (hq:q l[k]=true):l.findIdx? q=some k:=by
 rw[List.findIdx?_eq_some_iff_getElem];exact⟨hk,hq,fun j hj=>by rw[hn j (by omega) hj];simp⟩
theorem find_miss {α:Type} {l:List α} {q:α→Bool} (hn:∀(j:Nat) (h:j<l.length),q l[j]=false):l.findIdx? q=none:=by
 rw[List.findIdx?_eq_none_iff];intro x hx;obtain⟨j,hj,rfl⟩:=List.getElem_of_mem hx;exact hn j hj
theorem find_any {α:Type} (l:List α) (q:α→Bool):decide (0≤oix (l.findIdx? q))=l.any q:=by
 cases h:l.findIdx? q with
 | none=>
  have:=List.findIdx?_eq_none_iff.1 h;rw[show l.any q=false from by rw[List.any_eq_false];intro x hx;simp[this x hx]];rfl
 | some i=>
  obtain⟨hi,hq,_⟩:=List.findIdx?_eq_some_iff_getElem.1 h;rw[show l.any q=true from List.any_eq_true.2 ⟨_,List.getElem_mem hi,hq⟩];simp[oix]
end Go.Proofs.YtlkajejbfojkeaaGreatDoor
