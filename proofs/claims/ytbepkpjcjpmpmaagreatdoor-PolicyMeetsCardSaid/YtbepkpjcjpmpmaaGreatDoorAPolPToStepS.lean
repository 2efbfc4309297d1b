/- PolP, Base, Blk, Step, StepS -/
import GoSem.Claim
import Derived.Test.YtbepkpjcjpmpmaaGreatDoorRows
import Derived.WalkKit
import Derived.WalkSpells
import Derived.WalkLawsBesides
import Derived.BigQuiet
import Derived.Deep.QuietTactic
import Derived.StillTailTactics
import Derived.Handy
import Derived.Lib.Hide
import Derived.Lib.SmallJoins
import Derived.Deep.RegionLaw
import Derived.Deep.RegionHeld3
import Derived.Shelf.Abstract
set_option linter.unusedSimpArgs false
set_option linter.unusedVariables false
set_option maxRecDepth 100000
set_option maxHeartbeats 16000000
namespace Go.Proofs.YtbepkpjcjpmpmaaGreatDoor
abbrev PStr:=List UInt8
inductive PF where
 | nil
 | cons (op:Int) (nm:PStr) (opt:Bool) (kids rest:PF)
 deriving DecidableEq
def PF.len:PF→Nat
 | .nil=>0
 | .cons _ _ _ _ r=>r.len+1
structure PE where
 op:Int
 nm:PStr
 opt:Bool
 kids:PF
 deriving DecidableEq
def PE.one (e:PE):PF:=.cons e.op e.nm e.opt e.kids .nil
def PF.at:PF→Nat→Option PE
 | .nil,_=>none
 | .cons o n b k _,0=>some ⟨o,n,b,k⟩
 | .cons _ _ _ _ r,i+1=>r.at i
def PF.snoc:PF→PE→PF
 | .nil,e=>e.one
 | .cons o n b k r,e=> .cons o n b k (r.snoc e)
def PF.from:PF→Nat→PF
 | f,0=>f
 | .nil,_+1=> .nil
 | .cons _ _ _ _ r,i+1=>r.from i
def PF.upTo:PF→Nat→PF
 | _,0=> .nil
 | .nil,_+1=> .nil
 | .cons o n b k r,i+1=> .cons o n b k (r.upTo i)
def PF.sz:PF→Nat
 | .nil=>0
 | .cons _ _ _ k r=>k.sz+r.sz+1
theorem PF.at_lt:∀(f:PF) (i:Nat),i<f.len→∃e,f.at i=some e
 | .nil,i,h=>by simp[PF.len] at h
 | .cons o n b k r,0,h=>⟨_,rfl⟩
 | .cons o n b k r,i+1,h=>PF.at_lt r i (by simp[PF.len] at h;omega)
theorem PF.at_sz:∀(f:PF) (i:Nat) (e:PE),f.at i=some e→e.kids.sz<f.sz
 | .nil,i,e,h=>by cases h
 | .cons o n b k r,0,e,h=>by injection h with h;subst h;simp[PF.sz];omega
 | .cons o n b k r,i+1,e,h=>by have:=PF.at_sz r i e h;simp[PF.sz];omega
theorem PF.from_at:∀(f:PF) (i:Nat) (e:PE),f.at i=some e→f.from i=.cons e.op e.nm e.opt e.kids (f.from (i+1))
 | .nil,i,e,h=>by cases h
 | .cons o n b k r,0,e,h=>by injection h with h;subst h;cases r<;>rfl
 | .cons o n b k r,i+1,e,h=>PF.from_at r i e h
theorem PF.from_len:∀(f:PF),f.from f.len=.nil
 | .nil=>rfl
 | .cons _ _ _ _ r=>PF.from_len r
theorem PF.upTo_len:∀(f:PF),f.upTo f.len=f
 | .nil=>rfl
 | .cons o n b k r=>by show PF.cons o n b k (r.upTo r.len)=_;rw[PF.upTo_len r]
theorem PF.upTo_at:∀(f:PF) (i:Nat) (e:PE),f.at i=some e→f.upTo (i+1)=(f.upTo i).snoc e
 | .nil,i,e,h=>by cases h
 | .cons o n b k r,0,e,h=>by injection h with h;subst h;cases r<;>rfl
 | .cons o n b k r,i+1,e,h=>by show PF.cons o n b k (r.upTo (i+1))=PF.cons o n b k ((r.upTo i).snoc e);rw[PF.upTo_at r i e h]
theorem PF.len_snoc:∀(f:PF) (e:PE),(f.snoc e).len=f.len+1
 | .nil,_=>rfl
 | .cons _ _ _ _ r,e=>by show(r.snoc e).len+1=_;rw[PF.len_snoc r e];rfl
theorem PF.len_zero {f:PF} (h:f.len=0):f=.nil:=by
 cases f with
 | nil=>rfl
 | cons=>simp[PF.len] at h
def isLet (c:UInt8):Bool:=(decide (97≤c) && decide (c≤122)) || (decide (65≤c) && decide (c≤90))
def isNm (s:PStr):Bool:=s.all isLet && !s.isEmpty && decide (s.length≤40)
def pOk (op:Int) (nm:PStr) (opt:Bool) (kids:PF):Bool:=if op=1 then isNm nm && decide (kids.len=0) else decide (op=2∨op=3) && nm.isEmpty && !opt
def pCounts:PF→Nat→Nat→Option Nat
 | .nil,_,m=>some m
 | .cons op nm opt kids rest,d,m=>if 12<d∨200<m+1∨pOk op nm opt kids=false then none else(pCounts kids (d+1) (m+1)).bind fun n=>pCounts rest d n
def pCount (e:PE) (d m:Nat):Option Nat:=pCounts e.one d m
def rSizes:PF→Nat→Nat→Nat
 | .nil,_,n=>n
 | .cons op nm opt kids rest,d,n=>
  let s:=if 12<d∨pOk op nm opt kids=false then 201 else rSizes kids (d+1) 1
  if 200<n+s then 201 else rSizes rest d (n+s)
def rSize (e:PE) (d:Nat):Nat:=if 12<d∨pOk e.op e.nm e.opt e.kids=false then 201 else rSizes e.kids (d+1) 1
theorem rSizes_ge:∀(l:PF) (d n:Nat),n≤200→n≤rSizes l d n
 | .nil,_,n,_=>Nat.le_refl _
 | .cons op nm opt kids rest,d,n,h=>by
  unfold rSizes;simp only;generalize(if 12<d∨pOk op nm opt kids=false then 201 else rSizes kids (d+1) 1)=s;split
  · omega
  · have:=rSizes_ge rest d (n+s) (by omega);omega
theorem counts_size:∀(l:PF) (d m n:Nat),m+n≤200→pCounts l d (m+n)=if m+rSizes l d n≤200 then some (m+rSizes l d n) else none
 | .nil,d,m,n,h=>by unfold pCounts rSizes;rw[if_pos h]
 | .cons op nm opt kids rest,d,m,n,h=>by
  unfold pCounts rSizes;simp only;by_cases hb:12<d∨pOk op nm opt kids=false
  · rw[if_pos (by rcases hb with hb | hb;exact .inl hb;exact .inr (.inr hb)),if_pos hb,if_pos (show 200<n+201 by omega),if_neg (show ¬m+201≤200 by omega)]
  · rw[show(if 12<d∨pOk op nm opt kids=false then 201 else rSizes kids (d+1) 1)=rSizes kids (d+1) 1 from if_neg hb];by_cases h2:200<m+n+1
    · rw[if_pos (.inr (.inl h2))];have hk:=rSizes_ge kids (d+1) 1 (by omega);split
      · rw[if_neg (by omega)]
      · have:=rSizes_ge rest d (n+rSizes kids (d+1) 1) (by omega);rw[if_neg (by omega)]
    · rw[if_neg (by
        rintro(e | e | e)
        · exact hb (.inl e)
        · exact h2 e
        · exact hb (.inr e))]
      rw[counts_size kids (d+1) (m+n) 1 (by omega)];by_cases h1:m+n+rSizes kids (d+1) 1≤200
      · rw[if_pos h1,if_neg (show ¬200<n+rSizes kids (d+1) 1 by omega)];simp only[Option.bind_some];rw[show m+n+rSizes kids (d+1) 1=m+(n+rSizes kids (d+1) 1) by omega];exact counts_size rest d m (n+rSizes kids (d+1) 1) (by omega)
      · rw[if_neg h1];simp only[Option.bind_none];split
        · rw[if_neg (by omega)]
        · rename_i h3
          have:=rSizes_ge rest d (n+rSizes kids (d+1) 1) (by omega);rw[if_neg (by omega)]
theorem rSizes_one (e:PE) (d n:Nat) (h:n≤200):rSizes e.one d n=if 200<n+rSize e d then 201 else n+rSize e d:=by
 unfold PE.one rSizes rSize;simp only[rSizes]
def pRight (e:PE):Bool:=(pCount e 1 0).isSome
theorem right_size (e:PE):pRight e=decide (rSize e 1≤200):=by
 unfold pRight pCount;have h:=counts_size e.one 1 0 0 (by omega);rw[show(0:Nat)=0+0 from rfl,h,rSizes_one e 1 0 (by omega)];by_cases h1:rSize e 1≤200
 · rw[if_neg (show ¬200<0+rSize e 1 by omega),if_pos (show 0+(0+rSize e 1)≤200 by omega)];simp[h1]
 · rw[if_pos (show 200<0+rSize e 1 by omega),if_neg (show ¬0+201≤200 by omega)];simp[h1]
open Go.RowKit
theorem ret_bool {a b:Bool} (h:a=b):Ending.returned (.bool a)=.returned (.bool b):=by rw[h]
theorem ret_int {a b:Int} (h:a=b):Ending.returned (.int .i64 a)=.returned (.int .i64 b):=by rw[h]
def Gives (v:Value) (w:World) (e:Ending) (w':World):Prop:=e=.returned v∧w=w'
def Makes (v:Value) (w:World) (e:Ending) (w':World):Prop:=e=.returned v∧Below w.heap.size w w'
theorem below_then {w W0 w1:World} (h:Below w.heap.size w W0) (hb:Below W0.heap.size W0 w1):Below w.heap.size w w1:=h.trans (hb.mono h.size)
theorem lt_of_cell {w:World} {a:Addr} {v:Value} (h:w.cell? a=some v):a.block<w.heap.size:=by
 rcases Nat.lt_or_ge a.block w.heap.size with h' | h'
 · exact h'
 · simp[World.cell?,Array.getElem?_eq_none h'] at h
abbrev errV (a:Addr):Value:=.iface 176 (.pointer (some a))
def ErrIs (w:World) (g:Nat) (a:Addr):Prop:=w.cell? ⟨g,0,none⟩=some (errV a)
theorem ErrIs.below {w w':World} {g:Nat} {a:Addr} (h:ErrIs w g a) (hb:Below w.heap.size w w'):ErrIs w' g a:=by
 have hlt:=lt_of_cell h;exact(hb.cell (p:=⟨g,0,none⟩) hlt).trans h
def errOf (ea:Int→Addr) (n:Int):Value:=if n=0 then .nilIface else errV (ea n)
theorem nat14 {k:Int} (h:1≤k∧k≤14):∃n:Fin 15,k=((n.val:Nat):Int):=⟨⟨k.toNat,by omega⟩,by simp;omega⟩
structure Blk (w:World) (b:Nat) (C:Array Value):Prop where
 lt:b<w.heap.size
 cell:∀i,w.cell? ⟨b,i,none⟩=C[i]?
 free:∀i,w.frozen? ⟨b,i,none⟩=false
theorem Blk.below {w w':World} {b:Nat} {C:Array Value} (h:Blk w b C) (hb:Below w.heap.size w w'):Blk w' b C:=
 ⟨Nat.lt_of_lt_of_le h.lt hb.size,fun i=>(hb.cell (p:=⟨b,i,none⟩) h.lt).trans (h.cell i),fun i=>(hb.frozen (p:=⟨b,i,none⟩) h.lt).trans (h.free i)⟩
theorem Blk.alloc {w:World} {b:Nat} {C:Array Value} (h:Blk w b C) (o:Obj):Blk (w.alloc o) b C:=
 h.below ((Below.refl _ _).alloc (Nat.le_refl _) o)
theorem Blk.fresh (w:World) (C:Array Value) (T:TypeId) (n:Nat) (hn:n=w.heap.size):Blk (w.alloc (.cells C T)) n C:=by
 subst hn;exact⟨by simp,fun i=>by simp,fun i=>by simp⟩
theorem Blk.drew {w:World} {b:Nat} {C:Array Value} (h:Blk w b C):Blk w.drew b C:=
 h.below ((Below.refl _ _).drew)
theorem Blk.out {w:World} {b:Nat} {C:Array Value} (h:Blk w b C):(∀i,w.cell? ⟨b,i,none⟩=C[i]?)∧(∀i,w.frozen? ⟨b,i,none⟩=false):=⟨h.cell,h.free⟩
open Go.RowKit Go.Shelf
theorem step_call {P : Program} {ops : Array Oper} {o : Oper} {a : Act} {w : World} {K : Act → World → Prop} {Q : Exit → Act → World → Prop} {E : Prop}
    (f:Nat) (argsO:Array Operand) (ts:Array TypeId) (args:List Value)
    (hop:o.op=Op.call {callee:=Callee.value (Operand.func f),args:=argsO,argTypes:=ts}) (he:Enters P f)
    (hw:Region.wanted o (yielded ops a.tmps)=true) (hargs:argsO.toList.map a.eval=args)
    (h:Calls P f args.toArray w (fun e w'=>∃v,e=.returned v∧K (a.put o.dst v) w')):
    if Region.wanted o (yielded ops a.tmps)=true then Oper.wp P o a w K Q else E:=by
 rw[if_pos hw];have hx:argsO.map a.eval=args.toArray:=Array.toList_inj.1 (by rw[Array.toList_map,hargs]);unfold Oper.wp;have hrun:(execOp a.eval o).run P w=.ok (.enter f args.toArray) w:=by
  have h1:=he args.toArray w;simp only[execOp,hop,resolve,Act.eval];simp[Deferred.ofValue,invoke];have hx2:(Array.map (fun x=>match x with
    | Operand.tmp t=>a.tmps.getD t undef
    | Operand.const v=>v
    | Operand.global g=>Value.pointer (some ⟨g,0,none⟩)
    | Operand.func f=>Value.func (.func f) #[] #[]) argsO)=args.toArray:=hx
  first
   | rw[hx2];exact h1
   | (rw[hx];exact h1)
 rw[hrun,Oper.upon_enter];refine h.mono ?_;rintro e w' ⟨v,rfl,hk⟩;exact hk
theorem wpOp_call {P : Program} {ops : Array Oper} {Q : Exit → Act → World → Prop} {a : Act} {w : World} {oi : Oper} {d : Option Tmp} {N : Act → World → Prop}
    (i:Nat) (f:Nat) (argsO:Array Operand) (ts:Array TypeId) (args:List Value) (hi:ops[i]? =some oi) (hd:oi.dst=d)
    (hop:oi.op=Op.call {callee:=Callee.value (Operand.func f),args:=argsO,argTypes:=ts}) (he:Enters P f)
    (hw:Region.wanted oi (yielded ops a.tmps)=true) (hargs:argsO.toList.map a.eval=args)
    (h:Calls P f args.toArray w (fun e w'=>∃v,e=.returned v∧N (a.put d v) w')):wpOp P ops Q i N a w:=by
 subst hd;refine wpOp_step hi (fun K' hK=> ?_);refine step_call f argsO ts args hop he hw hargs (h.mono ?_);rintro e w' ⟨v,rfl,h3⟩;exact⟨v,rfl,hK _ _ h3⟩
theorem wpAnyH_takeAt {P : Program} {md : Region.Mode} {ops : Array Oper} {Q : Exit → Act → World → Prop} {S : World → Prop} {fuel : Nat} {listed : Array Bool} {a : Act} {w : World} {oi : Oper} {d : Option Tmp} {v : Value}
    (i:Nat) (hi:ops[i]? =some oi) (hd:oi.dst=d)
    (hs:Region.noSelect ops=true) (hf:Region.free md ops listed i=true) (hr:(Region.ready md ops listed).contains i=true)
    (hQ:∀c a w,Q (.panic c) (a.put oi.dst v) w→Q (.panic c) a w) (hS:S w) (hw:Region.wanted oi (yielded ops a.tmps)=true) (hy:∀w,S w→(execOp a.eval oi).run P w=.ok (.value v) w)
    (h:wpAnyH P md ops Q S fuel (listed.setIfInBounds i true) (a.put d v) w):wpAnyH P md ops Q S (fuel+1) listed a w:=by
 subst hd;exact wpAnyH_take hi hs hf hr hQ (.inl ⟨hw,hy⟩) hS h
theorem step_die {P : Program} {ops : Array Oper} {o : Oper} {a : Act} {w : World} {K : Act → World → Prop} {Q : Exit → Act → World → Prop} {E : Prop} (c : List PanicEntry)
    (f:Nat) (argsO:Array Operand) (ts:Array TypeId) (args:List Value)
    (hop:o.op=Op.call {callee:=Callee.value (Operand.func f),args:=argsO,argTypes:=ts}) (he:Enters P f)
    (hw:Region.wanted o (yielded ops a.tmps)=true) (hargs:argsO.toList.map a.eval=args)
    (h:Calls P f args.toArray w (fun e w'=>e=.panicked c∧Q (.panic c) a w')):
    if Region.wanted o (yielded ops a.tmps)=true then Oper.wp P o a w K Q else E:=by
 rw[if_pos hw];have hx:argsO.map a.eval=args.toArray:=Array.toList_inj.1 (by rw[Array.toList_map,hargs]);unfold Oper.wp;have hrun:(execOp a.eval o).run P w=.ok (.enter f args.toArray) w:=by
  have h1:=he args.toArray w;simp only[execOp,hop,resolve,Act.eval];simp[Deferred.ofValue,invoke];have hx2:(Array.map (fun x=>match x with
    | Operand.tmp t=>a.tmps.getD t undef
    | Operand.const v=>v
    | Operand.global g=>Value.pointer (some ⟨g,0,none⟩)
    | Operand.func f=>Value.func (.func f) #[] #[]) argsO)=args.toArray:=hx
  first
   | rw[hx2];exact h1
   | (rw[hx];exact h1)
 rw[hrun,Oper.upon_enter];refine h.mono ?_;rintro e w' ⟨rfl,hk⟩;exact hk
theorem wpAnyH_skipAt {P : Program} {md : Region.Mode} {ops : Array Oper} {Q : Exit → Act → World → Prop} {S : World → Prop} {fuel : Nat} {listed : Array Bool} {a : Act} {w : World} {oi : Oper} {d : Option Tmp}
    (i:Nat) (hi:ops[i]? =some oi) (hd:oi.dst=d)
    (hs:Region.noSelect ops=true) (hf:Region.free md ops listed i=true) (hr:(Region.ready md ops listed).contains i=true)
    (hQ:∀c a w,Q (.panic c) (a.put oi.dst undef) w→Q (.panic c) a w) (hS:S w) (hw:Region.wanted oi (yielded ops a.tmps)=false)
    (h:wpAnyH P md ops Q S fuel (listed.setIfInBounds i true) (a.put d undef) w):wpAnyH P md ops Q S (fuel+1) listed a w:=by
 subst hd;exact wpAnyH_take hi hs hf hr hQ (.inr ⟨hw,rfl⟩) hS h
theorem wpOp_alone {P : Program} {ops : Array Oper} {Q : Exit → Act → World → Prop} {a : Act} {w : World} {oi : Oper} {d : Option Tmp} {N : Act → World → Prop}
    (i:Nat) (v:Value) (w':World) (hi:ops[i]? =some oi) (hd:oi.dst=d)
    (hw:Region.wanted oi (yielded ops a.tmps)=true) (hrun:(execOp a.eval oi).run P w=.ok (.value v) w') (h:N (a.put d v) w'):wpOp P ops Q i N a w:=by
 subst hd;refine wpOp_step hi (fun K' hK=> ?_);rw[if_pos hw];unfold Oper.wp;rw[hrun];exact hK _ _ h
theorem wpOp_die {P : Program} {ops : Array Oper} {Q : Exit → Act → World → Prop} {a : Act} {w : World} {oi : Oper} {N : Act → World → Prop} (c : List PanicEntry)
    (i:Nat) (f:Nat) (argsO:Array Operand) (ts:Array TypeId) (args:List Value) (hi:ops[i]? =some oi)
    (hop:oi.op=Op.call {callee:=Callee.value (Operand.func f),args:=argsO,argTypes:=ts}) (he:Enters P f)
    (hw:Region.wanted oi (yielded ops a.tmps)=true) (hargs:argsO.toList.map a.eval=args)
    (h:Calls P f args.toArray w (fun e w'=>e=.panicked c∧Q (.panic c) a w')):wpOp P ops Q i N a w:=by
 refine wpOp_step hi (fun K' hK=> ?_);exact step_die c f argsO ts args hop he hw hargs h
theorem takeT {P : Program} {md : Region.Mode} {ops : Array Oper} {Q : Exit → Act → World → Prop} {S : World → Prop} {fuel : Nat} {listed : Array Bool} {a : Act} {w : World} {oi : Oper} {d : Option Tmp} {v : Value}
    (i:Nat) (hS:S w) (hy:∀w,S w→(execOp a.eval oi).run P w=.ok (.value v) w) (h:wpAnyH P md ops Q S fuel (listed.setIfInBounds i true) (a.put d v) w)
    (hi:ops[i]? =some oi:=by rfl) (hd:oi.dst=d:=by rfl)
    (hs:Region.noSelect ops=true:=by kernel_rfl) (hf:Region.free md ops listed i=true:=by kernel_rfl) (hr:(Region.ready md ops listed).contains i=true:=by kernel_rfl)
    (hQ:∀c a w,Q (.panic c) (a.put oi.dst v) w→Q (.panic c) a w:=by exact fun _ _ _ h=>h) (hw:Region.wanted oi (yielded ops a.tmps)=true:=by rfl):wpAnyH P md ops Q S (fuel+1) listed a w:=
  wpAnyH_takeAt i hi hd hs hf hr hQ hS hw hy h
theorem skipT {P : Program} {md : Region.Mode} {ops : Array Oper} {Q : Exit → Act → World → Prop} {S : World → Prop} {fuel : Nat} {listed : Array Bool} {a : Act} {w : World} {oi : Oper} {d : Option Tmp}
    (i:Nat) (hS:S w) (h:wpAnyH P md ops Q S fuel (listed.setIfInBounds i true) (a.put d undef) w)
    (hi:ops[i]? =some oi:=by rfl) (hd:oi.dst=d:=by rfl)
    (hs:Region.noSelect ops=true:=by kernel_rfl) (hf:Region.free md ops listed i=true:=by kernel_rfl) (hr:(Region.ready md ops listed).contains i=true:=by kernel_rfl)
    (hQ:∀c a w,Q (.panic c) (a.put oi.dst undef) w→Q (.panic c) a w:=by exact fun _ _ _ h=>h) (hw:Region.wanted oi (yielded ops a.tmps)=false:=by rfl):wpAnyH P md ops Q S (fuel+1) listed a w:=
  wpAnyH_skipAt i hi hd hs hf hr hQ hS hw h
theorem takeU {P : Program} {md : Region.Mode} {ops : Array Oper} {Q : Exit → Act → World → Prop} {S : World → Prop} {fuel : Nat} {listed : Array Bool} {a : Act} {w : World} {oi : Oper} {d : Option Tmp} {v : Value}
    (i:Nat) (hi:ops[i]? =some oi) (hd:oi.dst=d) (hS:S w) (hy:∀w,S w→(execOp a.eval oi).run P w=.ok (.value v) w) (h:wpAnyH P md ops Q S fuel (listed.setIfInBounds i true) (a.put d v) w)
    (hs:Region.noSelect ops=true:=by kernel_rfl) (hf:Region.free md ops listed i=true:=by kernel_rfl) (hr:(Region.ready md ops listed).contains i=true:=by kernel_rfl)
    (hQ:∀c a w,Q (.panic c) (a.put oi.dst v) w→Q (.panic c) a w:=by exact fun _ _ _ h=>h) (hw:Region.wanted oi (yielded ops a.tmps)=true:=by rfl):wpAnyH P md ops Q S (fuel+1) listed a w:=
  wpAnyH_takeAt i hi hd hs hf hr hQ hS hw hy h
theorem puts : (∀ (a : Act) (d : Tmp) (v : Value), a.put (some d) v = { a with tmps := a.tmps.setIfInBounds d v }) ∧ (∀ (a : Act) (v : Value), a.put none v = a)
    ∧(∀(l:List Value) (i:Nat) (v:Value),l.toArray.setIfInBounds i v=(l.set i v).toArray)∧(∀(x v:Value) (l:List Value),(x::l).set 0 v=v::l)∧(∀(x v:Value) (l:List Value) (n:Nat),(x::l).set (n+1) v=x::l.set n v)
    ∧(∀(l:List Bool) (i:Nat) (v:Bool),l.toArray.setIfInBounds i v=(l.set i v).toArray)∧(∀(x v:Bool) (l:List Bool),(x::l).set 0 v=v::l)∧(∀(x v:Bool) (l:List Bool) (n:Nat),(x::l).set (n+1) v=x::l.set n v):=by
  refine⟨fun _ _ _=>rfl,fun _ _=>rfl,fun _ _ _=> ?_,fun _ _ _=>rfl,fun _ _ _ _=>rfl,fun _ _ _=> ?_,fun _ _ _=>rfl,fun _ _ _ _=>rfl⟩<;>simp
end Go.Proofs.YtbepkpjcjpmpmaaGreatDoor
