/- TabPlain, Base, RefA, TabB, TabA, TabC, TabD, Blk, TabE, TabF, TabG, TabH, MovPlain, Is, Num, MovA, MovB, MovR, Float, FlA, FlB, Told, ToldB, TrcP -/
import Derived.Test.YtlkajejbfojkeaaGreatDoorKQq
import GoSem.Claim
import Derived.Test.YtlkajejbfojkeaaGreatDoorRows
import Derived.WalkKit
import Derived.WalkSpells
import Derived.WalkLawsBesides
import Derived.BigQuiet
import Derived.Deep.QuietTactic
import Derived.StillTailTactics
import Derived.Handy
import Derived.Lib.Hide
import Derived.Lib.SmallJoins
import Derived.LaidEql
import Derived.Stop.Asserts
import Derived.RowKitTokens
import Derived.Deep.RegionHeld3
import Ieee.Arith
import Derived.Laws.Externs
import Derived.Laws.Cover2
import Derived.Lib.SplitLaws
import Derived.Lib.ItoaNum
import Derived.Lib.Strings
set_option linter.unusedSimpArgs false
set_option linter.unusedVariables false
set_option maxRecDepth 100000
set_option maxHeartbeats 16000000
namespace Go.Proofs.YtlkajejbfojkeaaGreatDoor
def rHas (p d s:Int):Bool:=
 decide ((s=4∨s=10)∧p=2∨s=3∧p=2∧d=1∨s≠4∧s≠10∧s≠3∧1≤s∧s≤14)
def rWaits (d s:Int):Int:=
 if d=1 then(if s=2∨s=3 then 10 else if s=4 then 2 else if s=6 then 9 else if s=7 then 11 else 0)
 else if s=5 then 3 else if 8≤s∧s≤11 then 4 else if s=12 then 5 else if s=13 then 1 else 0
def rTakes (p d k:Int):Bool:=
 decide (d=1∧(k=1∨3≤k∧k≤8)∨d≠1∧(k=2∧p=2∨9≤k∧k≤14))
def rSends (p d k:Int):Bool:=
 decide (d=2∧(k=1∨3≤k∧k≤8)∨d≠2∧(k=2∧p=2∨9≤k∧k≤14))
def rCoord (p k s:Int):Int×Int×Int:=
 if k=1 then(if s=1∨s=2∨s=3∨s=4 then(1,13,0) else if s=13 then(2,0,0) else if s=14 then(3,0,13) else(4,0,0))
 else if k=3 then
  (if s=1∨s=2 then(if p=1 then(1,5,0) else(4,0,0)) else if s=3∨s=4 then(1,5,0) else if s=5∨s=11∨s=14 then(2,0,0)
   else if s=6 then(3,0,9) else if s=7 then(3,0,11) else(4,0,0))
 else if k=4 then
  (if s=1 then(1,8,0) else if s=2∨s=3 then(1,9,0) else if s=4 then(1,10,0) else if s=7 then(1,11,0)
   else if 8≤s∧s≤11 then(2,0,0) else if s=14 then(3,0,12) else(4,0,0))
 else if k=5 then(if s=1∨s=2∨s=3∨s=4 then(1,12,0) else if s=12 then(2,0,0) else if s=14 then(3,0,14) else(4,0,0))
 else if k=6∨k=7∨k=8 then
  (if s=14 then(2,0,0) else if k=6∧(s=2∨s=3)∨k=7∧s=6∨k=8∧s=7 then(1,14,0) else(4,0,0))
 else(4,0,0)
def rPart (k s:Int):Int×Int×Int:=
 if k=2 then(if s=1 then(1,4,0) else if rWaits 2 s≠0 then(3,0,rWaits 2 s) else(2,0,0))
 else if k=10 then(if s=1∨s=4 then(1,2,0) else if rWaits 2 s≠0 then(3,0,rWaits 2 s) else if s=14 then(3,0,6) else(2,0,0))
 else if k=9 then(if s=5 then(1,6,0) else if s=6 then(2,0,0) else if s=14 then(3,0,7) else(4,0,0))
 else if k=11 then(if s=5 then(1,7,0) else if s=7 then(2,0,0) else if s=11 then(3,0,4) else if s=14 then(3,0,8) else(4,0,0))
 else if k=12∨k=13∨k=14 then
  (if s=14 then(2,0,0) else if k=12∧8≤s∧s≤11∨k=13∧s=13∨k=14∧s=12 then(1,14,0) else(4,0,0))
 else(4,0,0)
def rSide (p d:Int):Bool:=decide (1≤p∧p≤2∧1≤d∧d≤2)
def rLook (p d k s:Int):(Int×Int×Int)×Int:=
 if rSide p d=false then((0,0,0),14)
 else if rTakes p d k=false then((0,0,0),4)
 else if rHas p d s=false then((0,0,0),1)
 else if d=1 then(rCoord p k s,0) else(rPart k s,0)
def rGoes (p k s:Int):Int:=
 if k=2 then(if s=1 then 4 else 0)
 else if k=10 then(if s=1 then 2 else if s=4 then 3 else 0)
 else if k=9 then(if s=5 then 6 else 0)
 else if k=11 then(if s=5 then 7 else 0)
 else if k=12 then(if 8≤s∧s≤11 then 14 else 0)
 else if k=13 then(if s=13 then 14 else 0)
 else if k=14 then(if s=12 then 14 else 0)
 else if k=1 then(if s=1∨s=4 then 13 else 0)
 else if k=5 then(if s=1∨s=4 then 12 else 0)
 else if k=3 then(if p=1∧s=1∨p=2∧s=4 then 5 else 0)
 else if k=4 then(if s=1 then 8 else if s=2 then 9 else if s=4 then 10 else if s=7 then 11 else 0)
 else if k=6 then(if s=2 then 14 else 0)
 else if k=7 then(if s=6 then 14 else 0)
 else if k=8 then(if s=7 then 14 else 0)
 else 0
def rStep (p d k s:Int):Int×Int:=
 if rSide p d=false then(0,14)
 else if rSends p d k=false then(0,4)
 else if rHas p d s=false then(0,1)
 else if rGoes p k s=0 then(0,9) else(rGoes p k s,0)
open Go.RowKit
theorem ret_bool {a b:Bool} (h:a=b):Ending.returned (.bool a)=.returned (.bool b):=by rw[h]
theorem ret_int {a b:Int} (h:a=b):Ending.returned (.int .i64 a)=.returned (.int .i64 b):=by rw[h]
def Gives (v:Value) (w:World) (e:Ending) (w':World):Prop:=e=.returned v∧w=w'
def Makes (v:Value) (w:World) (e:Ending) (w':World):Prop:=e=.returned v∧Below w.heap.size w w'
theorem below_then {w W0 w1:World} (h:Below w.heap.size w W0) (hb:Below W0.heap.size W0 w1):Below w.heap.size w w1:=h.trans (hb.mono h.size)
theorem bcell {W w1:World} (hb:Below W.heap.size W w1):(∀b o,b<W.heap.size→w1.cell? ⟨b,o,none⟩=W.cell? ⟨b,o,none⟩)∧(∀b o,b<W.heap.size→w1.frozen? ⟨b,o,none⟩=W.frozen? ⟨b,o,none⟩):=
 ⟨fun b o h=>hb.cell (p:=⟨b,o,none⟩) h,fun b o h=>hb.frozen (p:=⟨b,o,none⟩) h⟩
theorem lt_of_cell {w:World} {a:Addr} {v:Value} (h:w.cell? a=some v):a.block<w.heap.size:=by
 rcases Nat.lt_or_ge a.block w.heap.size with h' | h'
 · exact h'
 · simp[World.cell?,Array.getElem?_eq_none h'] at h
abbrev errV (a:Addr):Value:=.iface 387 (.pointer (some a))
def ErrIs (w:World) (g:Nat) (a:Addr):Prop:=w.cell? ⟨g,0,none⟩=some (errV a)
theorem ErrIs.below {w w':World} {g:Nat} {a:Addr} (h:ErrIs w g a) (hb:Below w.heap.size w w'):ErrIs w' g a:=by
 have hlt:=lt_of_cell h;exact(hb.cell (p:=⟨g,0,none⟩) hlt).trans h
def errOf (ea:Int→Addr) (n:Int):Value:=if n=0 then .nilIface else errV (ea n)
theorem nat14 {k:Int} (h:1≤k∧k≤14):∃n:Fin 15,k=((n.val:Nat):Int):=⟨⟨k.toNat,by omega⟩,by simp;omega⟩
theorem rhas_any (p d s:Int) (w:World):Calls Tryz.prog 257 #[.int .i64 p,.int .i64 d,.int .i64 s] w (Gives (.bool (rHas p d s)) w):=by
 go_enter Tryz.func257,Tryz.ntmps257;go_wp2
 all_goals (go_ret;refine⟨ret_bool ?_,rfl⟩;rw[Bool.eq_iff_iff];simp[rHas];(try simp only[beq_iff_eq,beq_eq_false_iff_ne,bne_iff_ne,bne_eq_false_iff_eq,ne_eq,decide_eq_true_eq,decide_eq_false_iff_not,Bool.not_eq_true',Bool.not_eq_false'] at *);omega)
def idxOf (ks:List Int) (k:Int):Int:=match ks.findIdx? (fun a=>a==k) with | some i=>i | none=> -1
theorem idxOf_at {ks:List Int} {k:Int} {j:Nat} (hj:j<ks.length) (hne:∀i,(h:i<ks.length)→i<j→ks[i]≠k) (he:ks[j]=k):idxOf ks k=j:=by
 have:ks.findIdx? (fun a=>a==k)=some j:=by
  rw[List.findIdx?_eq_some_iff_getElem];exact⟨hj,by simp[he],fun i hi=>by simpa using hne i (by omega) hi⟩
 simp[idxOf,this]
theorem idxOf_none {ks:List Int} {k:Int} (hne:∀i,(h:i<ks.length)→ks[i]≠k):idxOf ks k= -1:=by
 have:ks.findIdx? (fun a=>a==k)=none:=by
  rw[List.findIdx?_eq_none_iff];intro x hx;obtain⟨i,hi,rfl⟩:=List.mem_iff_getElem.1 hx;simpa using hne i hi
 simp[idxOf,this]
abbrev Row:=Int×ByteArray×Int
abbrev Act':=Int×ByteArray
def RowsAt (w:World) (b:Nat) (rs:List Row):Prop:=b<w.heap.size∧∀j (h:j<rs.length),
 w.cell? ⟨b,j*3,none⟩=some (.int .i64 rs[j].1)∧w.cell? ⟨b,j*3+1,none⟩=some (.string rs[j].2.1)∧w.cell? ⟨b,j*3+2,none⟩=some (.int .i64 rs[j].2.2)
def ActsAt (w:World) (b:Nat) (rs:List Act'):Prop:=b<w.heap.size∧∀j (h:j<rs.length),
 w.cell? ⟨b,j*2,none⟩=some (.int .i64 rs[j].1)∧w.cell? ⟨b,j*2+1,none⟩=some (.string rs[j].2)
theorem RowsAt.below {w w':World} {b:Nat} {rs:List Row} (h:RowsAt w b rs) (hb:Below w.heap.size w w'):RowsAt w' b rs:=by
 refine⟨Nat.lt_of_lt_of_le h.1 hb.size,fun j hj=> ?_⟩;have:=h.2 j hj;rw[hb.cell (p:=⟨b,j*3,none⟩) h.1,hb.cell (p:=⟨b,j*3+1,none⟩) h.1,hb.cell (p:=⟨b,j*3+2,none⟩) h.1];exact this
theorem ActsAt.below {w w':World} {b:Nat} {rs:List Act'} (h:ActsAt w b rs) (hb:Below w.heap.size w w'):ActsAt w' b rs:=by
 refine⟨Nat.lt_of_lt_of_le h.1 hb.size,fun j hj=> ?_⟩;have:=h.2 j hj;rw[hb.cell (p:=⟨b,j*2,none⟩) h.1,hb.cell (p:=⟨b,j*2+1,none⟩) h.1];exact this
structure Tab where
 rows:List Row
 acts:List Act'
 waits:ByteArray
def rowCells (rs:List Row):Array Value:=(rs.flatMap fun r=>[.int .i64 r.1,.string r.2.1,.int .i64 r.2.2]).toArray
def actCells (rs:List Act'):Array Value:=(rs.flatMap fun r=>[.int .i64 r.1,.string r.2]).toArray
theorem flat3 (rs:List Row):∀j (h:j<rs.length),(rowCells rs)[j*3]? =some (.int .i64 rs[j].1)∧(rowCells rs)[j*3+1]? =some (.string rs[j].2.1)∧(rowCells rs)[j*3+2]? =some (.int .i64 rs[j].2.2):=by
 induction rs with
 | nil=>intro j h;simp at h
 | cons r rs ih=>
  intro j h
  cases j with
  | zero=>simp[rowCells]
  | succ j=>
   have:=ih j (by simpa using h);have e1:(j+1)*3=j*3+1+1+1:=by omega
   simp only[rowCells,List.flatMap_cons,List.getElem?_toArray,List.cons_append,List.nil_append,e1,List.getElem?_cons_succ,List.getElem_cons_succ] at this⊢;exact this
theorem flat2 (rs:List Act'):∀j (h:j<rs.length),(actCells rs)[j*2]? =some (.int .i64 rs[j].1)∧(actCells rs)[j*2+1]? =some (.string rs[j].2):=by
 induction rs with
 | nil=>intro j h;simp at h
 | cons r rs ih=>
  intro j h
  cases j with
  | zero=>simp[actCells]
  | succ j=>
   have:=ih j (by simpa using h);have e1:(j+1)*2=j*2+1+1:=by omega
   simp only[actCells,List.flatMap_cons,List.getElem?_toArray,List.cons_append,List.nil_append,e1,List.getElem?_cons_succ,List.getElem_cons_succ] at this⊢;exact this
theorem rowsAt_mk {w:World} {b:Nat} {rs:List Row} {C:Array Value} {T:TypeId} {f:Nat×Nat} (h:w.heap[b]? =some (.cells C T f)) (hC:rowCells rs=C):RowsAt w b rs:=by
 subst hC;refine⟨?_,fun j hj=> ?_⟩
 · rcases Nat.lt_or_ge b w.heap.size with h' | h'
   · exact h'
   · simp[Array.getElem?_eq_none h'] at h
 · have:=flat3 rs j hj;simpa[World.cell?,h] using this
theorem actsAt_mk {w:World} {b:Nat} {rs:List Act'} {C:Array Value} {T:TypeId} {f:Nat×Nat} (h:w.heap[b]? =some (.cells C T f)) (hC:actCells rs=C):ActsAt w b rs:=by
 subst hC;refine⟨?_,fun j hj=> ?_⟩
 · rcases Nat.lt_or_ge b w.heap.size with h' | h'
   · exact h'
   · simp[Array.getElem?_eq_none h'] at h
 · have:=flat2 rs j hj;simpa[World.cell?,h] using this
def IsTab (B:Nat) (t:Tab) (v:Value) (w:World):Prop:=∃br ba,B≤br∧B≤ba∧v=.agg #[.slice (some ⟨br,0,none⟩) t.rows.length t.rows.length,.slice (some ⟨ba,0,none⟩) t.acts.length t.acts.length,.string t.waits]∧RowsAt w br t.rows∧ActsAt w ba t.acts
theorem IsTab.below {B:Nat} {t:Tab} {v:Value} {w w':World} (h:IsTab B t v w) (hb:Below w.heap.size w w'):IsTab B t v w':=by
 obtain⟨br,ba,b1,b2,h1,h2,h3⟩:=h;exact⟨br,ba,b1,b2,h1,h2.below hb,h3.below hb⟩
theorem RowsAt.setCell {w:World} {b:Nat} {rs:List Row} (h:RowsAt w b rs) {p:Addr} (hp:p.block<b) (v:Value):RowsAt (w.setCell p v) b rs:=by
 have hk:∀o,(w.setCell p v).cell? ⟨b,o,none⟩=w.cell? ⟨b,o,none⟩:=fun o=>World.cell?_of_block (w:=w) (Below.heap_setCell w p v b (by omega))
 refine⟨by simpa using h.1,fun j hj=> ?_⟩;rw[hk,hk,hk];exact h.2 j hj
theorem ActsAt.setCell {w:World} {b:Nat} {rs:List Act'} (h:ActsAt w b rs) {p:Addr} (hp:p.block<b) (v:Value):ActsAt (w.setCell p v) b rs:=by
 have hk:∀o,(w.setCell p v).cell? ⟨b,o,none⟩=w.cell? ⟨b,o,none⟩:=fun o=>World.cell?_of_block (w:=w) (Below.heap_setCell w p v b (by omega))
 refine⟨by simpa using h.1,fun j hj=> ?_⟩;rw[hk,hk];exact h.2 j hj
theorem IsTab.setCell {B:Nat} {t:Tab} {v:Value} {w:World} (h:IsTab B t v w) {p:Addr} (hp:p.block<B) (u:Value):IsTab B t v (w.setCell p u):=by
 obtain⟨br,ba,b1,b2,h1,h2,h3⟩:=h;exact⟨br,ba,b1,b2,h1,h2.setCell (by omega) u,h3.setCell (by omega) u⟩
theorem IsTab.mono {B B':Nat} {t:Tab} {v:Value} {w:World} (h:IsTab B t v w) (hB:B'≤B):IsTab B' t v w:=by
 obtain⟨br,ba,b1,b2,h1⟩:=h;exact⟨br,ba,by omega,by omega,h1⟩
def MakesTab (t:Tab) (w:World) (e:Ending) (w':World):Prop:=∃v,e=.returned v∧IsTab w.heap.size t v w'∧Below w.heap.size w w'
theorem isTab_mk (t : Tab) (w : World) (o : Obj) {R A : Array Value} {T1 T2 : TypeId} (hR : rowCells t.rows = R) (hA : actCells t.acts = A) :
    IsTab w.heap.size t (.agg #[.slice (some ⟨w.heap.size+1,0,none⟩) t.rows.length t.rows.length,.slice (some ⟨w.heap.size+1+1,0,none⟩) t.acts.length t.acts.length,.string t.waits]) (((w.alloc o).alloc (.cells R T1)).alloc (.cells A T2)):=by
 refine⟨_,_,by omega,by omega,rfl,rowsAt_mk (C:=R) (T:=T1) (f:=(0,0)) ?_ hR,actsAt_mk (C:=A) (T:=T2) (f:=(0,0)) ?_ hA⟩
 · rw[heap_alloc_old (h:=by simp)];have:=heap_alloc_new (w.alloc o) (.cells R T1);simpa using this
 · have:=heap_alloc_new ((w.alloc o).alloc (.cells R T1)) (.cells A T2);simpa using this
def tCP:Tab where
 rows:=[(1,⟨#[109,109,46,46,120,120,120,120,120,46,120,120,45,33]⟩,13),
   (3,⟨#[101,101,46,46,45,61,61,120,120,46,45,120,120,45]⟩,0),
   (4,⟨#[104,105,46,46,120,120,107,45,45,46,45,120,120,33]⟩,12),
   (5,⟨#[108,108,46,46,120,120,120,120,120,46,120,45,120,33]⟩,14),
   (6,⟨#[120,110,46,46,120,120,120,120,120,46,120,120,120,45]⟩,0),
   (7,⟨#[120,120,46,46,120,110,120,120,120,46,120,120,120,45]⟩,0),
   (8,⟨#[120,120,46,46,120,120,110,120,120,46,120,120,120,45]⟩,0)]
 acts:=[(9,⟨#[120,120,46,46,102,120,120,120,120,46,120,120,120,120]⟩),
   (10,⟨#[98,120,46,46,120,120,120,120,120,46,120,120,120,120]⟩),
   (11,⟨#[120,120,46,46,103,120,120,120,120,46,120,120,120,120]⟩),
   (12,⟨#[120,120,46,46,120,120,120,110,110,46,110,120,120,120]⟩),
   (13,⟨#[120,120,46,46,120,120,120,120,120,46,120,120,110,120]⟩),
   (14,⟨#[120,120,46,46,120,120,120,120,120,46,120,110,120,120]⟩)]
 waits:=⟨#[46,106,46,46,46,105,107,46,46,46,46,46,46,46]⟩
def tCC:Tab where
 rows:=[(1,⟨#[109,109,109,109,120,120,120,120,120,120,120,120,45,33]⟩,13),
   (3,⟨#[120,120,101,101,45,61,61,120,120,120,45,120,120,45]⟩,0),
   (4,⟨#[104,105,105,106,120,120,107,45,45,45,45,120,120,33]⟩,12),
   (5,⟨#[108,108,108,108,120,120,120,120,120,120,120,45,120,33]⟩,14),
   (6,⟨#[120,110,110,120,120,120,120,120,120,120,120,120,120,45]⟩,0),
   (7,⟨#[120,120,120,120,120,110,120,120,120,120,120,120,120,45]⟩,0),
   (8,⟨#[120,120,120,120,120,120,110,120,120,120,120,120,120,45]⟩,0)]
 acts:=[(2,⟨#[100,120,120,120,120,120,120,120,120,120,120,120,120,120]⟩),
   (9,⟨#[120,120,120,120,102,120,120,120,120,120,120,120,120,120]⟩),
   (10,⟨#[98,120,120,99,120,120,120,120,120,120,120,120,120,120]⟩),
   (11,⟨#[120,120,120,120,103,120,120,120,120,120,120,120,120,120]⟩),
   (12,⟨#[120,120,120,120,120,120,120,110,110,110,110,120,120,120]⟩),
   (13,⟨#[120,120,120,120,120,120,120,120,120,120,120,120,110,120]⟩),
   (14,⟨#[120,120,120,120,120,120,120,120,120,120,120,110,120,120]⟩)]
 waits:=⟨#[46,106,106,98,46,105,107,46,46,46,46,46,46,46]⟩
def tPP:Tab where
 rows:=[(9,⟨#[120,120,46,46,102,45,120,120,120,46,120,120,120,33]⟩,7),
   (10,⟨#[98,45,46,46,61,45,45,61,61,46,61,61,61,33]⟩,6),
   (11,⟨#[120,120,46,46,103,120,45,120,120,46,61,120,120,33]⟩,8),
   (12,⟨#[120,120,46,46,120,120,120,110,110,46,110,120,120,45]⟩,0),
   (13,⟨#[120,120,46,46,120,120,120,120,120,46,120,120,110,45]⟩,0),
   (14,⟨#[120,120,46,46,120,120,120,120,120,46,120,110,120,45]⟩,0)]
 acts:=[(1,⟨#[109,120,46,46,120,120,120,120,120,46,120,120,120,120]⟩),
   (3,⟨#[101,120,46,46,120,120,120,120,120,46,120,120,120,120]⟩),
   (4,⟨#[104,105,46,46,120,120,107,120,120,46,120,120,120,120]⟩),
   (5,⟨#[108,120,46,46,120,120,120,120,120,46,120,120,120,120]⟩),
   (6,⟨#[120,110,46,46,120,120,120,120,120,46,120,120,120,120]⟩),
   (7,⟨#[120,120,46,46,120,110,120,120,120,46,120,120,120,120]⟩),
   (8,⟨#[120,120,46,46,120,120,110,120,120,46,120,120,120,120]⟩)]
 waits:=⟨#[46,46,46,46,99,46,46,100,100,100,100,101,97,46]⟩
def tPC:Tab where
 rows:=[(2,⟨#[100,45,46,45,61,45,45,61,61,61,61,61,61,45]⟩,0),
   (9,⟨#[120,120,46,120,102,45,120,120,120,120,120,120,120,33]⟩,7),
   (10,⟨#[98,45,46,98,61,45,45,61,61,61,61,61,61,33]⟩,6),
   (11,⟨#[120,120,46,120,103,120,45,120,120,120,61,120,120,33]⟩,8),
   (12,⟨#[120,120,46,120,120,120,120,110,110,110,110,120,120,45]⟩,0),
   (13,⟨#[120,120,46,120,120,120,120,120,120,120,120,120,110,45]⟩,0),
   (14,⟨#[120,120,46,120,120,120,120,120,120,120,120,110,120,45]⟩,0)]
 acts:=[(1,⟨#[109,120,46,109,120,120,120,120,120,120,120,120,120,120]⟩),
   (3,⟨#[120,120,46,101,120,120,120,120,120,120,120,120,120,120]⟩),
   (4,⟨#[104,105,46,106,120,120,107,120,120,120,120,120,120,120]⟩),
   (5,⟨#[108,120,46,108,120,120,120,120,120,120,120,120,120,120]⟩),
   (6,⟨#[120,110,46,120,120,120,120,120,120,120,120,120,120,120]⟩),
   (7,⟨#[120,120,46,120,120,110,120,120,120,120,120,120,120,120]⟩),
   (8,⟨#[120,120,46,120,120,120,110,120,120,120,120,120,120,120]⟩)]
 waits:=⟨#[46,46,46,46,99,46,46,100,100,100,100,101,97,46]⟩
theorem tCP_any (w:World):Calls Tryz.prog 285 #[] w (MakesTab tCP w):=by
 go_enter Tryz.func285,Tryz.ntmps285;go_wp2;go_returns;exact⟨_,rfl,isTab_mk tCP w _ (by kernel_rfl) (by kernel_rfl),by go_grown⟩
theorem tCC_any (w:World):Calls Tryz.prog 286 #[] w (MakesTab tCC w):=by
 go_enter Tryz.func286,Tryz.ntmps286;go_wp2;go_returns;exact⟨_,rfl,isTab_mk tCC w _ (by kernel_rfl) (by kernel_rfl),by go_grown⟩
theorem tPP_any (w:World):Calls Tryz.prog 287 #[] w (MakesTab tPP w):=by
 go_enter Tryz.func287,Tryz.ntmps287;go_wp2;go_returns;exact⟨_,rfl,isTab_mk tPP w _ (by kernel_rfl) (by kernel_rfl),by go_grown⟩
theorem tPC_any (w:World):Calls Tryz.prog 288 #[] w (MakesTab tPC w):=by
 go_enter Tryz.func288,Tryz.ntmps288;go_wp2;go_returns;exact⟨_,rfl,isTab_mk tPC w _ (by kernel_rfl) (by kernel_rfl),by go_grown⟩
def tabOf (p d:Int):Option Tab:=if p=1∧d=1 then some tCP else if p=2∧d=1 then some tCC else if p=1∧d=2 then some tPP else if p=2∧d=2 then some tPC else none
def OfYes (t:Tab) (w:World) (e:Ending) (w':World):Prop:=∃v,e=.returned (.tuple #[v,.nilIface])∧IsTab w.heap.size t v w'∧Below w.heap.size w w'
theorem run_equalIn_arr2 {P : Program} (d : Nat) (t e : TypeId) (a b c f : Int) (w : World) (ht : P.underlying t = some (.array 2 e)) (he : P.underlying e = some (.int .i64)) (hz : (P.info? e).map (·.size) = some 1) :
    (Op.equalIn (d+1+1) t (.agg #[a,b]) (.agg #[c,f])).run P w=.ok (a==c && b==f) w:=by
 obtain⟨i,hi,hs⟩:=Option.map_eq_some_iff.1 hz;rw[Op.equalIn];have hr:List.range' 0 2=[0,1]:=rfl;simp only[Sem.run_bind,run_underlying ht,Result.andThen_ok,sizeOf,typeInfo,program,Sem.run,hi,Std.Legacy.Range.forIn_eq_forIn_range',Std.Legacy.Range.size,Nat.sub_zero,Nat.add_one_sub_one,Nat.div_one,hr,List.forIn_cons,List.forIn_nil]
 simp[part,isAgg,run_underlying he,run_equalIn_int w d e .i64 .i64 _ _ he,go_sem];by_cases h1:a=c<;>by_cases h2:b=f<;>simp[h1,h2,hs,run_equalIn_int w d e .i64 .i64 _ _ he,go_sem]
theorem eqArr (a b c f:Int) (w:World):(Op.equalIn 10000 104 (.agg #[a,b]) (.agg #[c,f])).run Tryz.prog w=.ok (a==c && b==f) w:=
 run_equalIn_arr2 9998 104 3 a b c f w Tryz.underlying104 Tryz.underlying3 (by kernel_rfl)
theorem of_no (p d : Int) (a : Addr) (w : World) (h : ErrIs w 13 a) (hn : tabOf p d = none) :
    Calls Tryz.prog 245 #[.int .i64 p,.int .i64 d] w (Makes (.tuple #[.agg #[.slice none 0 0,.slice none 0 0,.string ⟨#[]⟩],errV a]) w):=by
 have hlt:=lt_of_cell h;have h':(w.alloc (.cells #[.slice none 0 0,.slice none 0 0,.string ⟨#[]⟩] 323)).cell? ⟨13,0,none⟩=some (errV a):=by
  rw[World.cell?_alloc_lt (h:=hlt)];exact h
 clear h;have k1:(p==1 && d==1)=false:=by unfold tabOf at hn;(repeat' split at hn)<;>simp_all
 have k2:(p==2 && d==1)=false:=by unfold tabOf at hn;(repeat' split at hn)<;>simp_all
 have k3:(p==1 && d==2)=false:=by unfold tabOf at hn;(repeat' split at hn)<;>simp_all
 have k4:(p==2 && d==2)=false:=by unfold tabOf at hn;(repeat' split at hn)<;>simp_all
 clear hn;have hA:=eqArr;go_enter Tryz.func245,Tryz.ntmps245;go_wp2_with fail;go_region
 all_goals go_wp2
 all_goals go_returns
 all_goals exact⟨rfl,by go_grown⟩
theorem of_yes (p d : Int) (t : Tab) (w : World) (ht : tabOf p d = some t) :
    Calls Tryz.prog 245 #[.int .i64 p,.int .i64 d] w (OfYes t w):=by
 have hc:p=1∧d=1∧t=tCP∨p=2∧d=1∧t=tCC∨p=1∧d=2∧t=tPP∨p=2∧d=2∧t=tPC:=by
  unfold tabOf at ht
  repeat' split at ht
  all_goals simp_all
 clear ht;have hA:=eqArr;rcases hc with⟨rfl,rfl,rfl⟩ | ⟨rfl,rfl,rfl⟩ | ⟨rfl,rfl,rfl⟩ | ⟨rfl,rfl,rfl⟩
 · go_enter Tryz.func245,Tryz.ntmps245;go_wp2_with (first | (go_at_call 285;refine(tCP_any _).mono ?_;rintro e w' ⟨v,rfl,hT,hb⟩;obtain⟨br,ba,b1,b2,rfl,hr,ha⟩:=hT;have hz:=hb.size;simp only[World.size_alloc] at hz b1 b2;obtain⟨hc,hf⟩:=bcell hb));obtain⟨hc,hf⟩:=bcell hb
   refine bodyPost_ret (v:=.tuple #[.agg #[.slice (some ⟨br,0,none⟩) tCP.rows.length tCP.rows.length,.slice (some ⟨ba,0,none⟩) tCP.acts.length tCP.acts.length,.string tCP.waits],.nilIface]) (by simp[results,Tryz.results245,go_sem,hc,hf,hz]) rfl ⟨_,rfl,?_,?_⟩
   · exact((IsTab.setCell (IsTab.setCell (IsTab.setCell ⟨br,ba,b1,b2,rfl,hr,ha⟩ (by simp) _) (by simp) _) (by simp) _).mono (by omega))
   · exact((((Below.refl _ _).alloc (Nat.le_refl _) _).trans (hb.mono (by simp))).setCell (by simp) _).setCell (by simp) _ |>.setCell (by simp) _
 · go_enter Tryz.func245,Tryz.ntmps245;go_wp2_with (first | (go_at_call 286;refine(tCC_any _).mono ?_;rintro e w' ⟨v,rfl,hT,hb⟩;obtain⟨br,ba,b1,b2,rfl,hr,ha⟩:=hT;have hz:=hb.size;simp only[World.size_alloc] at hz b1 b2;obtain⟨hc,hf⟩:=bcell hb));obtain⟨hc,hf⟩:=bcell hb
   refine bodyPost_ret (v:=.tuple #[.agg #[.slice (some ⟨br,0,none⟩) tCC.rows.length tCC.rows.length,.slice (some ⟨ba,0,none⟩) tCC.acts.length tCC.acts.length,.string tCC.waits],.nilIface]) (by simp[results,Tryz.results245,go_sem,hc,hf,hz]) rfl ⟨_,rfl,?_,?_⟩
   · exact((IsTab.setCell (IsTab.setCell (IsTab.setCell ⟨br,ba,b1,b2,rfl,hr,ha⟩ (by simp) _) (by simp) _) (by simp) _).mono (by omega))
   · exact((((Below.refl _ _).alloc (Nat.le_refl _) _).trans (hb.mono (by simp))).setCell (by simp) _).setCell (by simp) _ |>.setCell (by simp) _
 · go_enter Tryz.func245,Tryz.ntmps245;go_wp2_with (first | (go_at_call 287;refine(tPP_any _).mono ?_;rintro e w' ⟨v,rfl,hT,hb⟩;obtain⟨br,ba,b1,b2,rfl,hr,ha⟩:=hT;have hz:=hb.size;simp only[World.size_alloc] at hz b1 b2;obtain⟨hc,hf⟩:=bcell hb));obtain⟨hc,hf⟩:=bcell hb
   refine bodyPost_ret (v:=.tuple #[.agg #[.slice (some ⟨br,0,none⟩) tPP.rows.length tPP.rows.length,.slice (some ⟨ba,0,none⟩) tPP.acts.length tPP.acts.length,.string tPP.waits],.nilIface]) (by simp[results,Tryz.results245,go_sem,hc,hf,hz]) rfl ⟨_,rfl,?_,?_⟩
   · exact((IsTab.setCell (IsTab.setCell (IsTab.setCell ⟨br,ba,b1,b2,rfl,hr,ha⟩ (by simp) _) (by simp) _) (by simp) _).mono (by omega))
   · exact((((Below.refl _ _).alloc (Nat.le_refl _) _).trans (hb.mono (by simp))).setCell (by simp) _).setCell (by simp) _ |>.setCell (by simp) _
 · go_enter Tryz.func245,Tryz.ntmps245;go_wp2_with (first | (go_at_call 288;refine(tPC_any _).mono ?_;rintro e w' ⟨v,rfl,hT,hb⟩;obtain⟨br,ba,b1,b2,rfl,hr,ha⟩:=hT;have hz:=hb.size;simp only[World.size_alloc] at hz b1 b2;obtain⟨hc,hf⟩:=bcell hb));obtain⟨hc,hf⟩:=bcell hb
   refine bodyPost_ret (v:=.tuple #[.agg #[.slice (some ⟨br,0,none⟩) tPC.rows.length tPC.rows.length,.slice (some ⟨ba,0,none⟩) tPC.acts.length tPC.acts.length,.string tPC.waits],.nilIface]) (by simp[results,Tryz.results245,go_sem,hc,hf,hz]) rfl ⟨_,rfl,?_,?_⟩
   · exact((IsTab.setCell (IsTab.setCell (IsTab.setCell ⟨br,ba,b1,b2,rfl,hr,ha⟩ (by simp) _) (by simp) _) (by simp) _).mono (by omega))
   · exact((((Below.refl _ _).alloc (Nat.le_refl _) _).trans (hb.mono (by simp))).setCell (by simp) _).setCell (by simp) _ |>.setCell (by simp) _
def chr (b:ByteArray) (i:Nat):Int:=((b.data.toList.getD i 0).toNat:Int)
theorem chr_at {b:ByteArray} {k:Nat} (h:k<b.size):(b[k].toNat:Int)=chr b k:=by
 unfold chr;have:k<b.data.toList.length:=by simpa using h
 rw[List.getD_eq_getElem?_getD,List.getElem?_eq_getElem this];rfl
theorem chr_bd (b:ByteArray) (i:Nat):0≤chr b i∧chr b i≤255:=by
 unfold chr;have:=(b.data.toList.getD i 0).toNat_lt;omega
def tHas (t:Tab) (s:Int):Bool:=decide (1≤s∧s≤14) && (match t.rows with | r::_=>chr r.2.1 (s - 1).toNat !=46 | []=>false)
def num (c:Int):Int:=(c - 97) % 256+1
def tWaited (t:Tab) (s:Int):Int:=if chr t.waits (s - 1).toNat=46 then 0 else num (chr t.waits (s - 1).toNat)
def tCell (t:Tab) (r:Row) (s:Int):Int×Int×Int:=
 if chr r.2.1 (s - 1).toNat=120 then(4,0,0) else if chr r.2.1 (s - 1).toNat=45 then(2,0,0) else if chr r.2.1 (s - 1).toNat=61 then(3,0,tWaited t s)
 else if chr r.2.1 (s - 1).toNat=33 then(3,0,r.2.2) else(1,num (chr r.2.1 (s - 1).toNat),0)
def Wf (t:Tab):Prop:=t.waits.size=14∧t.rows≠[]∧t.rows.length≤20∧t.acts.length≤20∧(∀r∈t.rows,r.2.1.size=14)∧(∀r∈t.acts,r.2.size=14)
theorem number_any (c:Int) (w:World) (hc:0≤c∧c≤255):Calls Tryz.prog 275 #[.int .u8 c] w (Gives (.int .i64 (num c)) w):=by
 go_enter Tryz.func275,Tryz.ntmps275;go_wp2;go_ret;exact⟨rfl,rfl⟩
theorem has_any (B : Nat) (t : Tab) (v : Value) (s : Int) (w : World) (ht : IsTab B t v w) (hwf : Wf t) :
    Calls Tryz.prog 246 #[v,.int .i64 s] w (Makes (.bool (tHas t s)) w):=by
 obtain⟨br,ba,b1,b2,rfl,h1,h2⟩:=ht;obtain⟨_,hne,hl,_,hsz,_⟩:=hwf;obtain⟨rw,acts,waits⟩:=t;simp only at hne hsz h1 h2 hl
 match rw,hne with
 | r::rs,_=>
 have hz:=h1.1;obtain⟨c1,c2,c3⟩:=h1.2 0 (by simp);have hsz:=hsz r (by simp);obtain⟨kind,str,en⟩:=r;simp only[List.getElem_cons_zero,Nat.zero_mul,Nat.zero_add] at c1 c2 c3 hsz;simp only[List.length_cons] at hl⊢;clear h1 h2;by_cases h14:1≤s∧s≤14
 · obtain⟨k,rfl⟩:∃k:Nat,s=(k:Int)+1:=⟨(s - 1).toNat,by omega⟩
   have hk:k<str.size:=by omega
   have hk2:=qq hsz;clear hsz;go_enter Tryz.func246,Tryz.ntmps246;go_wp2;go_ret;refine⟨ret_bool ?_,by go_grown⟩;rw[chr_at hk];have:((k:Int)+1 - 1).toNat=k:=by omega
   simp[tHas,h14,this]
 · by_cases hs:1≤s
   · have h15:¬s≤14:=by omega
     have h15':decide (s≤14)=false:=by simpa using h15
     clear h14;go_enter Tryz.func246,Tryz.ntmps246;go_wp2;go_ret;refine⟨ret_bool ?_,by go_grown⟩;simp[tHas];omega
   · have h15':decide (1≤s)=false:=by simpa using hs
     clear h14;go_enter Tryz.func246,Tryz.ntmps246;go_wp2;go_ret;refine⟨ret_bool ?_,by go_grown⟩;simp[tHas];omega
theorem waited_any (B : Nat) (t : Tab) (v : Value) (s : Int) (w : World) (ht : IsTab B t v w) (hwf : Wf t) (h14 : 1 ≤ s ∧ s ≤ 14) :
    Calls Tryz.prog 247 #[v,.int .i64 s] w (Makes (.int .i64 (tWaited t s)) w):=by
 obtain⟨br,ba,b1,b2,rfl,h1,h2⟩:=ht;have hsz:=hwf.1;obtain⟨rw,acts,waits⟩:=t;simp only at hsz⊢;clear h1 h2 hwf;obtain⟨k,rfl⟩:∃k:Nat,s=(k:Int)+1:=⟨(s - 1).toNat,by omega⟩
 have hk:k<waits.size:=by omega
 have hk2:=qq hsz;clear hsz;have hb:=waits[k].toNat_lt;go_enter Tryz.func247,Tryz.ntmps247;go_wp2_with (first | (go_at_call 275;refine(number_any _ _ (by omega)).mono ?_;rintro e w' ⟨rfl,rfl⟩))
 all_goals go_ret
 all_goals (refine⟨ret_int ?_,by go_grown⟩;have e1:((k:Int)+1 - 1).toNat=k:=by omega)
 all_goals rw[tWaited,e1]
 · have h:(waits[k].toNat:Int)=46:=by first | assumption | (have:((waits[k].toNat:Int)==46)=true:=by assumption);simpa using this
   rw[chr_at hk] at h;rw[if_pos h]
 · have h:¬(waits[k].toNat:Int)=46:=by first | assumption | (have:((waits[k].toNat:Int)==46)=false:=by assumption);simpa using this
   rw[chr_at hk] at h⊢;rw[if_neg h]
structure Blk (w:World) (b:Nat) (C:Array Value):Prop where
 lt:b<w.heap.size
 cell:∀i,w.cell? ⟨b,i,none⟩=C[i]?
 free:∀i,w.frozen? ⟨b,i,none⟩=false
theorem Blk.below {w w':World} {b:Nat} {C:Array Value} (h:Blk w b C) (hb:Below w.heap.size w w'):Blk w' b C:=
 ⟨Nat.lt_of_lt_of_le h.lt hb.size,fun i=>(hb.cell (p:=⟨b,i,none⟩) h.lt).trans (h.cell i),fun i=>(hb.frozen (p:=⟨b,i,none⟩) h.lt).trans (h.free i)⟩
theorem Blk.alloc {w:World} {b:Nat} {C:Array Value} (h:Blk w b C) (o:Obj):Blk (w.alloc o) b C:=
 h.below ((Below.refl _ _).alloc (Nat.le_refl _) o)
theorem Blk.fresh (w:World) (C:Array Value) (T:TypeId) (n:Nat) (hn:n=w.heap.size):Blk (w.alloc (.cells C T)) n C:=by
 subst hn;exact⟨by simp,fun i=>by simp,fun i=>by simp⟩
theorem Blk.drew {w:World} {b:Nat} {C:Array Value} (h:Blk w b C):Blk w.drew b C:=
 h.below ((Below.refl _ _).drew)
theorem Blk.other {w:World} {b:Nat} {C:Array Value} (h:Blk w b C) {p:Addr} (hp:p.block≠b) (v:Value):Blk (w.setCell p v) b C:=by
 have e:=Below.heap_setCell w p v b (by omega);exact⟨by simpa using h.lt,fun i=>(World.cell?_of_block (w:=w) (a:=⟨b,i,none⟩) e).trans (h.cell i),fun i=>(World.frozen?_of_block (w:=w) (a:=⟨b,i,none⟩) e).trans (h.free i)⟩
theorem Blk.out {w:World} {b:Nat} {C:Array Value} (h:Blk w b C):(∀i,w.cell? ⟨b,i,none⟩=C[i]?)∧(∀i,w.frozen? ⟨b,i,none⟩=false):=⟨h.cell,h.free⟩
def tLook (p d k s:Int):(Int×Int×Int)×Int:=
 match tabOf p d with
 | none=>((0,0,0),14)
 | some t=>if idxOf (t.rows.map (·.1)) k<0 then((0,0,0),4) else if tHas t s=false then((0,0,0),1)
  else match t.rows[(idxOf (t.rows.map (·.1)) k).toNat]? with
   | some r=>(tCell t r s,0)
   | none=>((0,0,0),0)
theorem wf_tab {p d:Int} {t:Tab} (h:tabOf p d=some t):Wf t:=by
 unfold tabOf at h
 repeat' split at h
 all_goals (simp only[Option.some.injEq,reduceCtorEq] at h)
 all_goals subst h
 all_goals (unfold Wf;decide)
def tStep (p d k s:Int):Int×Int:=
 match tabOf p d with
 | none=>(0,14)
 | some t=>if idxOf (t.acts.map (·.1)) k<0 then(0,4) else if tHas t s=false then(0,1)
  else match t.acts[(idxOf (t.acts.map (·.1)) k).toNat]? with
   | some r=>if chr r.2 (s - 1).toNat=120 then(0,9) else(num (chr r.2 (s - 1).toNat),0)
   | none=>(0,0)
def tWaits (p d s:Int):Int×Int:=
 match tabOf p d with
 | none=>(0,14)
 | some t=>if tHas t s=false then(0,1) else(tWaited t s,0)
theorem waits_tab (p d s : Int) (t : Tab) (ea : Int → Addr) (w : World) (ht : tabOf p d = some t) (h1 : ErrIs w 0 (ea 1)) :
    Calls Tryz.prog 170 #[.int .i64 p,.int .i64 d,.int .i64 s] w (Makes (.tuple #[.int .i64 (tWaits p d s).1,errOf ea (tWaits p d s).2]) w):=by
 have hwf:=wf_tab ht;have hlk:tWaits p d s=((if tHas t s=false then(0,1) else(tWaited t s,0)):Int×Int):=by unfold tWaits;rw[ht]
 rw[hlk];clear hlk;have hg1:0<w.heap.size:=lt_of_cell h1;have HE1:=qq h1;clear h1;obtain⟨hs,hhs⟩:∃hs,hs=tHas t s:=⟨_,rfl⟩
 rw[←hhs];have HS:=qq hhs;clear hhs;have HT:=qq ht;clear ht
 cases hs with
 | false=>
  simp only[if_true];go_enter Tryz.func170,Tryz.ntmps170;go_wp2_with (first
    | (go_at_call 245;refine(of_yes p d t _ HT.out).mono ?_;rintro e w1 ⟨v,rfl,hT,hb1⟩;have HT1:=qq hT;obtain⟨br,ba,b1,b2,rfl,hr,ha⟩:=hT;have hz1:=hb1.size;(try simp only[World.size_alloc] at hz1 b1 b2);have B1:Below w.heap.size w w1:=below_then (by go_grown) hb1)
    | (go_at_call 246;refine(has_any _ t _ s _ (HT1.out.below ((Below.refl _ _).alloc (Nat.le_refl _) _)) hwf).mono ?_;rw[←HS.out];rintro e w3 ⟨rfl,hb3⟩;have hz3:=hb3.size;have B3:Below w.heap.size w w3:=below_then (by go_grown) hb3;have k1:w3.cell? ⟨0,0,none⟩=some (errV (ea 1)):=HE1.out.below B3))
  go_region
  all_goals go_wp2
  all_goals go_ret2
  all_goals exact⟨rfl,by go_grown⟩
 | true=>
  rw[if_neg (by simp)];have h14:1≤s∧s≤14:=by have:=HS.out;simp[tHas] at this;omega
  simp only[];go_enter Tryz.func170,Tryz.ntmps170;go_wp2_with (first
    | (go_at_call 245;refine(of_yes p d t _ HT.out).mono ?_;rintro e w1 ⟨v,rfl,hT,hb1⟩;have HT1:=qq hT;obtain⟨br,ba,b1,b2,rfl,hr,ha⟩:=hT;have hz1:=hb1.size;(try simp only[World.size_alloc] at hz1 b1 b2);have B1:Below w.heap.size w w1:=below_then (by go_grown) hb1)
    | (go_at_call 246;refine(has_any _ t _ s _ (HT1.out.below ((Below.refl _ _).alloc (Nat.le_refl _) _)) hwf).mono ?_;rw[←HS.out];rintro e w3 ⟨rfl,hb3⟩;have HT3:=qq ((HT1.out.below ((Below.refl _ _).alloc (Nat.le_refl _) _)).below hb3);obtain⟨q2,f2⟩:=((Blk.fresh w1 _ _ _ rfl).below hb3).out;have hz3:=hb3.size;have B3:Below w.heap.size w w3:=below_then (by go_grown) hb3)
    | (go_at_call 247;refine(waited_any _ t _ s _ HT3.out hwf h14).mono ?_;rintro e w4 ⟨rfl,hb4⟩;clear q2 f2;have B4:Below w.heap.size w w4:=below_then B3 hb4))
  go_ret2;exact⟨rfl,B4⟩
/-! where there is no such side -/
theorem waits_none (p d s : Int) (a : Addr) (w : World) (h : ErrIs w 13 a) (hn : tabOf p d = none) :
    Calls Tryz.prog 170 #[.int .i64 p,.int .i64 d,.int .i64 s] w (Makes (.tuple #[.int .i64 0,errV a]) w):=by
 have HE:=qq h;clear h;have HN:=qq hn;clear hn;go_enter Tryz.func170,Tryz.ntmps170;go_wp2_with (first
   | (go_at_call 245;refine(of_no p d a _ ?_ HN.out).mono ?_;exact HE.out.below (by go_grown);rintro e w1 ⟨rfl,hb1⟩;have hz1:=hb1.size;(try simp only[World.size_alloc] at hz1);have B1:Below w.heap.size w w1:=below_then (by go_grown) hb1))
 go_ret2;exact⟨rfl,by go_grown⟩
theorem tabOf_cases {p d:Int} {t:Tab} (ht:tabOf p d=some t):p=1∧d=1∧t=tCP∨p=2∧d=1∧t=tCC∨p=1∧d=2∧t=tPP∨p=2∧d=2∧t=tPC:=by
 unfold tabOf at ht
 repeat' split at ht
 all_goals simp_all
theorem tabOf_none {p d:Int} (h:tabOf p d=none):rSide p d=false:=by
 unfold tabOf at h
 (repeat' split at h)<;>simp_all [rSide]
 omega
theorem tabOf_some {p d:Int} {t:Tab} (ht:tabOf p d=some t):rSide p d=true:=by
 rcases tabOf_cases ht with⟨rfl,rfl,rfl⟩ | ⟨rfl,rfl,rfl⟩ | ⟨rfl,rfl,rfl⟩ | ⟨rfl,rfl,rfl⟩<;>rfl
def okAt (p d:Int) (t:Tab):Bool:=
 decide (∀n:Fin 15,(idxOf (t.rows.map (·.1)) (n.val:Nat)<0↔rTakes p d (n.val:Nat)=false)∧(idxOf (t.acts.map (·.1)) (n.val:Nat)<0↔rSends p d (n.val:Nat)=false)∧tHas t (n.val:Nat)=rHas p d (n.val:Nat)∧
   (tHas t (n.val:Nat)=true→tWaited t (n.val:Nat)=rWaits d (n.val:Nat))∧
   ∀m:Fin 15,tLook p d (n.val:Nat) (m.val:Nat)=rLook p d (n.val:Nat) (m.val:Nat)∧tStep p d (n.val:Nat) (m.val:Nat)=rStep p d (n.val:Nat) (m.val:Nat))
theorem ok1:okAt 1 1 tCP=true:=by decide+kernel
theorem ok2:okAt 2 1 tCC=true:=by decide+kernel
theorem ok3:okAt 1 2 tPP=true:=by decide+kernel
theorem ok4:okAt 2 2 tPC=true:=by decide+kernel
theorem ok_tab {p d:Int} {t:Tab} (ht:tabOf p d=some t):okAt p d t=true:=by
 rcases tabOf_cases ht with⟨rfl,rfl,rfl⟩ | ⟨rfl,rfl,rfl⟩ | ⟨rfl,rfl,rfl⟩ | ⟨rfl,rfl,rfl⟩
 · exact ok1
 · exact ok2
 · exact ok3
 · exact ok4
theorem rHas_out {p d s:Int} (hs:¬(1≤s∧s≤14)):rHas p d s=false:=by simp[rHas];omega
theorem tHas_out {t:Tab} {s:Int} (hs:¬(1≤s∧s≤14)):tHas t s=false:=by simp only[tHas];simp;intro h1 h2;omega
theorem tHas_eq {p d s:Int} {t:Tab} (ht:tabOf p d=some t):tHas t s=rHas p d s:=by
 by_cases hs:1≤s∧s≤14
 · obtain⟨n,rfl⟩:=nat14 hs;exact((of_decide_eq_true (ok_tab ht)) n).2.2.1
 · rw[tHas_out hs,rHas_out hs]
def rWait (p d s:Int):Int×Int:=if rSide p d=false then(0,14) else if rHas p d s=false then(0,1) else(rWaits d s,0)
theorem tWaits_eq (p d s:Int):tWaits p d s=rWait p d s:=by
 cases ht:tabOf p d with
 | none=>simp only[tWaits,ht,rWait,tabOf_none ht,if_true]
 | some t=>
  simp only[tWaits,ht,rWait,tabOf_some ht,tHas_eq ht,Bool.true_eq_false,if_false];by_cases hs:1≤s∧s≤14
  · obtain⟨m,rfl⟩:=nat14 hs;have h:=(of_decide_eq_true (ok_tab ht) m).2.2;split
    · rfl
    · rename_i hn
      rw[h.2.1 (by rw[tHas_eq ht];simpa using hn)]
  · rw[rHas_out hs,if_pos rfl,if_pos rfl]
structure Err3 (ea:Int→Addr) (w:World):Prop where
 e1:ErrIs w 0 (ea 1)
 e4:ErrIs w 3 (ea 4)
 e14:ErrIs w 13 (ea 14)
theorem Err3.below {ea:Int→Addr} {w w':World} (h:Err3 ea w) (hb:Below w.heap.size w w'):Err3 ea w':=⟨h.e1.below hb,h.e4.below hb,h.e14.below hb⟩
theorem waits_any (p d s : Int) (ea : Int → Addr) (w : World) (h : Err3 ea w) :
    Calls Tryz.prog 170 #[.int .i64 p,.int .i64 d,.int .i64 s] w (Makes (.tuple #[.int .i64 (rWait p d s).1,errOf ea (rWait p d s).2]) w):=by
 rw[←tWaits_eq]
 cases ht:tabOf p d with
 | some t=>exact waits_tab p d s t ea w ht h.e1
 | none=>
  have:=waits_none p d s (ea 14) w h.e14 ht;have e:tWaits p d s=(0,14):=by simp only[tWaits,ht]
  rw[e];exact this
structure MSeat where
 p:Int
 d:Int
 s:Int
 h:Int
 deriving DecidableEq
def mRight (x:MSeat):Bool:=decide ((rWait x.p x.d x.s).2=0) && (if x.s=14 then[1,4,5,6,7,8].contains x.h else decide (x.h=0))
open Go.RowKit Go.Extern.Stop Go.Stop Go.Extern
theorem isTypeOf (v:Value) (w:World):(Extern.ReflectliteType.typeOf #[.iface 387 v]).run Tryz.prog w=.ok (.iface 328 (.agg #[.pointer (some ⟨18,387,none⟩)])) w:=by kernel_rfl
def cmpExt : Array Value → Sem Value := Extern.ReflectliteType.method fun t => do Extern.Rtype.noPackHeld "Comparable" t; pure (.bool (← typeInfo t).comparable)
theorem isComparable (w:World):(cmpExt #[.agg #[.pointer (some ⟨18,387,none⟩)]]).run Tryz.prog w=.ok (.bool true) w:=by kernel_rfl
theorem isMethodComparable (v : Value) (w : World) : (Go.method 522 328 v "Comparable").run Tryz.prog w = .ok (329, v) w := by kernel_rfl
theorem isComp:(Tryz.prog.info? 387).map (·.comparable)=some true:=by kernel_rfl
theorem isSize:(Tryz.prog.info? 410).map (·.size)=some 1:=by kernel_rfl
theorem noIsE (v:Value) (xT:TypeId) (w:World):(Instr.typeAssert (.iface 387 v) xT 330 true).run Tryz.prog w=.ok (.tuple #[.nilIface,.bool false]) w:=run_typeAssert_lacksB Tryz.underlying330 (by kernel_rfl) (by kernel_rfl) v xT w
theorem noUnwrapE (v:Value) (xT:TypeId) (w:World):(Instr.typeAssert (.iface 387 v) xT 333 true).run Tryz.prog w=.ok (.tuple #[.nilIface,.bool false]) w:=run_typeAssert_lacksB Tryz.underlying333 (by kernel_rfl) (by kernel_rfl) v xT w
theorem noUnwrapsE (v:Value) (xT:TypeId) (w:World):(Instr.typeAssert (.iface 387 v) xT 335 true).run Tryz.prog w=.ok (.tuple #[.nilIface,.bool false]) w:=run_typeAssert_lacksB Tryz.underlying335 (by kernel_rfl) (by kernel_rfl) v xT w
theorem is_same (a:Addr) (w:World):Calls Tryz.prog 82 #[errV a,errV a] w (Gives (.bool true) w):=by
 obtain⟨i,hi,hcmp⟩:=Option.map_eq_some_iff.1 isComp;obtain⟨j,hj,hjs⟩:=Option.map_eq_some_iff.1 isSize;have h8:=@run_callFunc_extern Tryz.prog 185 _ Extern.ReflectliteType.typeOf Tryz.func185 (by kernel_rfl) (by kernel_rfl) (by kernel_rfl) (by kernel_rfl);have h32:=@run_callFunc_extern Tryz.prog 329 _ cmpExt Tryz.func329 (by kernel_rfl) (by kernel_rfl) (by kernel_rfl) (by kernel_rfl)
 have tT:=isTypeOf;have cT:=isComparable;have mR:=isMethodComparable;have heq:=run_eql_iface_ptr_same (P:=Tryz.prog) w a Tryz.underlying26 Tryz.underlying387 hi hcmp hj;go_enter Tryz.func82,Tryz.ntmps82;go_wp2;refine wp_loop_rounds 1 ?_;rw[rounds_succ];go_wp2;go_ret;exact⟨rfl,rfl⟩
theorem is_other (a b : Addr) (ca cb : Array Value) (ta tb : TypeId) (w : World) (hne : a ≠ b) (ha : w.heap[a.block]? = some (.cells ca ta (0, 0))) (hb : w.heap[b.block]? = some (.cells cb tb (0, 0))) :
    Calls Tryz.prog 82 #[errV a,errV b] w (Gives (.bool false) w):=by
 obtain⟨i,hi,hcmp⟩:=Option.map_eq_some_iff.1 isComp;obtain⟨j,hj,hjs⟩:=Option.map_eq_some_iff.1 isSize;have h8:=@run_callFunc_extern Tryz.prog 185 _ Extern.ReflectliteType.typeOf Tryz.func185 (by kernel_rfl) (by kernel_rfl) (by kernel_rfl) (by kernel_rfl);have h32:=@run_callFunc_extern Tryz.prog 329 _ cmpExt Tryz.func329 (by kernel_rfl) (by kernel_rfl) (by kernel_rfl) (by kernel_rfl)
 have tT:=isTypeOf;have cT:=isComparable;have mR:=isMethodComparable;have nE:=noIsE;have uE:=noUnwrapE;have vE:=noUnwrapsE;have heq:=run_eql_iface_ptr_other (P:=Tryz.prog) w Tryz.underlying26 Tryz.underlying387 hi hcmp hj (by rw[hjs];decide) hne ha hb;go_enter Tryz.func82,Tryz.ntmps82;go_wp2;refine wp_loop_rounds 1 ?_;rw[rounds_succ];go_wp2;go_ret;exact⟨rfl,rfl⟩
structure Errs (ea:Int→Addr) (w:World):Prop where
 e1:ErrIs w 0 (ea 1)
 e2:ErrIs w 1 (ea 2)
 e3:ErrIs w 2 (ea 3)
 e4:ErrIs w 3 (ea 4)
 e5:ErrIs w 4 (ea 5)
 e6:ErrIs w 5 (ea 6)
 e7:ErrIs w 6 (ea 7)
 e8:ErrIs w 7 (ea 8)
 e9:ErrIs w 8 (ea 9)
 e10:ErrIs w 9 (ea 10)
 e11:ErrIs w 10 (ea 11)
 e12:ErrIs w 11 (ea 12)
 e13:ErrIs w 12 (ea 13)
 e14:ErrIs w 13 (ea 14)
 ne:∀i j:Int,1≤i→i≤14→1≤j→j≤14→ea i=ea j→i=j
 row:∀i:Int,1≤i→i≤14→∃c t,w.heap[(ea i).block]? =some (.cells c t (0,0))
theorem lt_of_row {w:World} {b:Nat} {o:Obj} (h:w.heap[b]? =some o):b<w.heap.size:=by
 rcases Nat.lt_or_ge b w.heap.size with h' | h'
 · exact h'
 · simp[Array.getElem?_eq_none h'] at h
theorem Errs.below {ea:Int→Addr} {w w':World} (h:Errs ea w) (hb:Below w.heap.size w w'):Errs ea w':=
 ⟨h.e1.below hb,h.e2.below hb,h.e3.below hb,h.e4.below hb,h.e5.below hb,h.e6.below hb,h.e7.below hb,h.e8.below hb,h.e9.below hb,h.e10.below hb,h.e11.below hb,h.e12.below hb,h.e13.below hb,h.e14.below hb,h.ne,
  fun i h1 h2=>by obtain⟨c,t,hr⟩:=h.row i h1 h2;exact⟨c,t,by rw[hb.block _ (lt_of_row hr)];exact hr⟩⟩
theorem num_nil (w:World):Calls Tryz.prog 20 #[.nilIface] w (Makes (.int .i64 0) w):=by
 go_enter Tryz.func20,Tryz.ntmps20;go_wp2_with fail;go_ret;exact⟨rfl,by go_grown⟩
theorem num_some (n:Int) (hn:1≤n∧n≤14) (ea:Int→Addr) (w:World) (h:Errs ea w):Calls Tryz.prog 20 #[errV (ea n)] w (Makes (.int .i64 n) w):=by
 have h1:w.cell? ⟨0,0,none⟩=some (errV (ea 1)):=h.e1;have h2:w.cell? ⟨1,0,none⟩=some (errV (ea 2)):=h.e2;have h3:w.cell? ⟨2,0,none⟩=some (errV (ea 3)):=h.e3;have h4:w.cell? ⟨3,0,none⟩=some (errV (ea 4)):=h.e4;have h5:w.cell? ⟨4,0,none⟩=some (errV (ea 5)):=h.e5;have h6:w.cell? ⟨5,0,none⟩=some (errV (ea 6)):=h.e6;have h7:w.cell? ⟨6,0,none⟩=some (errV (ea 7)):=h.e7
 have h8:w.cell? ⟨7,0,none⟩=some (errV (ea 8)):=h.e8;have h9:w.cell? ⟨8,0,none⟩=some (errV (ea 9)):=h.e9;have h10:w.cell? ⟨9,0,none⟩=some (errV (ea 10)):=h.e10;have h11:w.cell? ⟨10,0,none⟩=some (errV (ea 11)):=h.e11;have h12:w.cell? ⟨11,0,none⟩=some (errV (ea 12)):=h.e12;have h13:w.cell? ⟨12,0,none⟩=some (errV (ea 13)):=h.e13;have h14:w.cell? ⟨13,0,none⟩=some (errV (ea 14)):=h.e14
 have hB:Below w.heap.size w (w.alloc (.cells #[errV (ea 1),errV (ea 2),errV (ea 3),errV (ea 4),errV (ea 5),errV (ea 6),errV (ea 7),errV (ea 8),errV (ea 9),errV (ea 10),errV (ea 11),errV (ea 12),errV (ea 13),errV (ea 14)] 26)):=(Below.refl _ _).alloc (Nat.le_refl _) _;have HE:=qq (h.below hB);clear h
 have HC:Hid (∀j:Nat,j<14→(w.alloc (.cells #[errV (ea 1),errV (ea 2),errV (ea 3),errV (ea 4),errV (ea 5),errV (ea 6),errV (ea 7),errV (ea 8),errV (ea 9),errV (ea 10),errV (ea 11),errV (ea 12),errV (ea 13),errV (ea 14)] 26)).cell? ⟨w.heap.size,j,none⟩=some (errV (ea ((j:Int)+1)))):=qq (fun j hj=>by
   rw[World.cell?_alloc_new]
   match j,hj with
   | 0,_ | 1,_ | 2,_ | 3,_ | 4,_ | 5,_ | 6,_ | 7,_ | 8,_ | 9,_ | 10,_ | 11,_ | 12,_ | 13,_=>rfl)
 go_enter Tryz.func20,Tryz.ntmps20;go_wp2_with fail;clear h1 h2 h3 h4 h5 h6 h7 h8 h9 h10 h11 h12 h13 h14;go_loop [25] (fun i=>∃j:Nat,(j:Int)+1≤n∧i=.int .i64 j) (fun i=>14 - (intOf i).toNat)
 case atStart=>exact⟨0,by omega,rfl⟩
 case round=>
  obtain⟨j,hj,rfl⟩:=hrel;have hcj:=HC.out j (by omega);by_cases hjn:(j:Int)+1=n
  · rw[hjn] at hcj;have HJ:=qq hjn;clear hjn;go_wp2_with (go_at_call 82;refine(is_same _ _).mono ?_;rintro e w' ⟨rfl,rfl⟩);go_ret;exact⟨ret_int HJ.out,hB⟩
  · have hne:ea n≠ea ((j:Int)+1):=fun he=>hjn (HE.out.ne _ _ (by omega) (by omega) (by omega) (by omega) he).symm
    obtain⟨c1,t1,r1⟩:=HE.out.row n (by omega) (by omega);obtain⟨c2,t2,r2⟩:=HE.out.row ((j:Int)+1) (by omega) (by omega);have HN:=qq hne;clear hne;have R1:=qq r1;clear r1;have R2:=qq r2;clear r2;go_wp2_with (go_at_call 82;refine(is_other _ _ _ _ _ _ _ HN.out R1.out R2.out).mono ?_;rintro e w' ⟨rfl,rfl⟩);go_round
    case rel=>exact⟨j+1,by omega,by go_num⟩
    case measure=>simp[intOf];omega
abbrev seatV (x:MSeat):Value:=.agg #[x.p,x.d,x.s,x.h]
def IntsAtB (w:World) (g:Nat) (xs:List Int):Prop:=∀i (h:i<xs.length),w.cell? ⟨g,i,none⟩=some (.int .i64 xs[i])
theorem ends_any (w:World):Calls Tryz.prog 244 #[] w fun e w'=>e=.returned (.slice (some ⟨w.heap.size,0,none⟩) 6 6)∧w'=w.alloc (.cells #[.int .i64 1,.int .i64 4,.int .i64 5,.int .i64 6,.int .i64 7,.int .i64 8] 3):=by
 go_enter Tryz.func244,Tryz.ntmps244;go_wp2;go_ret;exact⟨rfl,rfl⟩
theorem index_any (xs : List Int) (n : Int) (g cap : Nat) (w : World) (h : IntsAtB w g xs) (hl : xs.length ≤ 1000) :
    Calls Tryz.prog 284 #[.slice (some ⟨g,0,none⟩) xs.length cap,.int .i64 n] w (Gives (.int .i64 (idxOf xs n)) w):=by
 have I1:=qq h;clear h;go_enter Tryz.func284,Tryz.ntmps284;go_wp2;go_loop [8] (fun i=>∃k:Nat,k≤xs.length∧i=.int .i64 k∧Hid (∀j,(h:j<xs.length)→j<k→xs[j]≠n)) (fun i=>xs.length - (intOf i).toNat)
 case atStart=>exact⟨0,by omega,rfl,qq (fun j _ hj=>absurd hj (Nat.not_lt_zero _))⟩
 case round=>
  obtain⟨k,hk,rfl,HN⟩:=hrel;by_cases hlt:k<xs.length
  · have a1:=I1.out k hlt;by_cases hx:xs[k]=n
    · have hi:=idxOf_at hlt (fun i h hi=>HN.out i h hi) hx;rw[hx] at a1;have HM:=qq hi;clear hi hx;go_wp2;go_ret;exact⟨ret_int HM.out.symm,rfl⟩
    · have hx':(n==xs[k])=false:=by simpa using fun e=>hx e.symm
      obtain⟨x,hxk⟩:∃x,x=xs[k]:=⟨_,rfl⟩
      rw[←hxk] at a1 hx';have HX:=qq hx;clear hx hxk;go_wp2;go_round
      case rel=>
       refine⟨k+1,by omega,by go_num,qq (fun j h hj=> ?_)⟩;rcases Nat.lt_succ_iff_lt_or_eq.1 hj with h' | rfl
       · exact HN.out j h h'
       · exact HX.out
      case measure=>simp[intOf];omega
  · have hi:=idxOf_none (ks:=xs) (k:=n) (fun i h=>HN.out i h (by omega));have HM:=qq hi;clear hi;go_wp2;go_ret;exact⟨ret_int HM.out.symm,rfl⟩
theorem idx_contains (xs:List Int) (n:Int):decide (0≤idxOf xs n)=xs.contains n:=by
 unfold idxOf
 cases h:xs.findIdx? (fun a=>a==n) with
 | some i=>
  have:=List.findIdx?_eq_some_iff_getElem.1 h;obtain⟨hi,he,_⟩:=this;have hm:n∈xs:=by
   have:xs[i]=n:=by simpa using he
   rw[←this];exact List.getElem_mem _
  simp[hm]
 | none=>
  have:=List.findIdx?_eq_none_iff.1 h;have hm:¬n∈xs:=fun hm=>by simpa using this n hm
  simp[hm]
theorem contains_any (xs : List Int) (n : Int) (g cap : Nat) (w : World) (h : IntsAtB w g xs) (hl : xs.length ≤ 1000) :
    Calls Tryz.prog 243 #[.slice (some ⟨g,0,none⟩) xs.length cap,.int .i64 n] w (Gives (.bool (xs.contains n)) w):=by
 have hc:=idx_contains xs n;obtain⟨i,hi⟩:∃i,i=idxOf xs n:=⟨_,rfl⟩
 have hx:=index_any xs n g cap w h hl;rw[←hi] at hx hc;have HX:=qq hx;clear hx h;rw[←hc];clear hc hi;go_enter Tryz.func243,Tryz.ntmps243;go_wp2_with (go_at_call 284;refine(HX.out).mono ?_;rintro e w' ⟨rfl,rfl⟩);go_ret;exact⟨rfl,rfl⟩
theorem ends_at (w:World):IntsAtB (World.drew (w.alloc (.cells #[.int .i64 1,.int .i64 4,.int .i64 5,.int .i64 6,.int .i64 7,.int .i64 8] 3))) w.heap.size [1,4,5,6,7,8]:=by
 intro i h;have:i<6:=h
 match i,this with
 | 0,_=>simp
 | 1,_=>simp
 | 2,_=>simp
 | 3,_=>simp
 | 4,_=>simp
 | 5,_=>simp
theorem right_of (x:MSeat) (ea:Int→Addr) (w:World) (h:Err3 ea w):Calls Tryz.prog 169 #[seatV x] w (Makes (.bool (mRight x)) w):=by
 obtain⟨p,d,s,h4⟩:=x;have H:=qq h;clear h;dsimp only[seatV];obtain⟨k,n,hk⟩:∃k n,rWait p d s=(k,n):=⟨_,_,rfl⟩
 have hW:∀W,Err3 ea W→Calls Tryz.prog 170 #[.int .i64 p,.int .i64 d,.int .i64 s] W (Makes (.tuple #[.int .i64 k,errOf ea n]) W):=fun W hw=>by
  have:=waits_any p d s ea W hw;rw[hk] at this;exact this
 have hm:mRight ⟨p,d,s,h4⟩=(decide (n=0) && (if s=14 then[1,4,5,6,7,8].contains h4 else decide (h4=0))):=by simp only[mRight,hk]
 rw[hm];clear hm hk;have HW:=qq hW;clear hW;by_cases hn:n=0
 · subst hn;simp only[errOf,if_true] at HW;by_cases hs:s=14
   · subst hs;simp only[decide_true,Bool.true_and,if_true];obtain⟨c,hc⟩:∃c,c=[1,4,5,6,7,8].contains h4:=⟨_,rfl⟩
     have hcon:∀W g,IntsAtB W g [1,4,5,6,7,8]→Calls Tryz.prog 243 #[.slice (some ⟨g,0,none⟩) 6 6,.int .i64 h4] W (Gives (.bool c) W):=fun W g hi=>by
      have:=contains_any [1,4,5,6,7,8] h4 g 6 W hi (by decide);rw[←hc] at this;exact this
     rw[←hc];have HC:=qq hcon;clear hcon hc;go_enter Tryz.func169,Tryz.ntmps169;go_wp2_with (go_at_call 170;refine(HW.out _ (H.out.below (by go_grown))).mono ?_;rintro e w1 ⟨rfl,hb1⟩;have HK1:=qq ((Blk.fresh w _ _ _ rfl).below hb1);obtain⟨q1,f1⟩:=HK1.out.out;have hz1:=hb1.size;simp only[World.size_alloc] at hz1;have B1:Below w.heap.size w w1:=below_then (by go_grown) hb1)
     have a3:w1.cell? ⟨w.heap.size,3,none⟩=some (.int .i64 h4):=q1 3;clear q1 f1;go_region_held3 (fun w'=>w'.cell? ⟨w.heap.size,3,none⟩=some (.int .i64 h4)) (first | go_keep | (simp;assumption)) (first
       | (go_at_call 244;refine(ends_any _).mono ?_;rintro e w2 ⟨rfl,rfl⟩)
       | (go_at_call 243;refine(HC.out _ _ (ends_at _)).mono ?_;rintro e w3 ⟨rfl,rfl⟩))
     go_wp2;go_ret;exact⟨rfl,(B1.alloc B1.size _).drew⟩
   · obtain⟨b,hb⟩:∃b,b=decide (h4=0):=⟨_,rfl⟩
     simp only[decide_true,Bool.true_and,if_neg hs];have hs':(s !=14)=true:=by simpa using hs
     have hh:(h4==0)=b:=by rw[hb];rfl
     rw[←hb];clear hb;go_enter Tryz.func169,Tryz.ntmps169;go_wp2_with (go_at_call 170;refine(HW.out _ (H.out.below (by go_grown))).mono ?_;rintro e w1 ⟨rfl,hb1⟩;have HK1:=qq ((Blk.fresh w _ _ _ rfl).below hb1);obtain⟨q1,f1⟩:=HK1.out.out;have B1:Below w.heap.size w w1:=below_then (by go_grown) hb1);go_ret;exact⟨rfl,B1⟩
 · rw[show decide (n=0)=false by simpa using hn,Bool.false_and];simp only[errOf,if_neg hn] at HW;go_enter Tryz.func169,Tryz.ntmps169;go_wp2_with (go_at_call 170;refine(HW.out _ (H.out.below (by go_grown))).mono ?_;rintro e w1 ⟨rfl,hb1⟩;have B1:Below w.heap.size w w1:=below_then (by go_grown) hb1);go_ret;exact⟨rfl,B1⟩
def wk (s:Int):Int:=if s=4 then 2 else if s=6 then 9 else if s=2 then 10 else if s=7 then 11 else 0
theorem right_eq (x:MSeat):mRight x=(decide (1≤x.p∧x.p≤2∧1≤x.d∧x.d≤2) && rHas x.p x.d x.s && (if x.s=14 then decide (x.h=1∨4≤x.h∧x.h≤8) else decide (x.h=0))):=by
 unfold mRight rWait rSide;have hc:[1,4,5,6,7,8].contains x.h=decide (x.h=1∨4≤x.h∧x.h≤8):=by
  rw[Bool.eq_iff_iff];simp;omega
 rw[hc];by_cases h1:1≤x.p∧x.p≤2∧1≤x.d∧x.d≤2
 · simp only[h1,decide_true]
   cases rHas x.p x.d x.s<;>simp
 · simp only[h1,decide_false];simp
theorem gright_of (x:MSeat) (w:World):Calls Tryz.prog 201 #[seatV x] w (Makes (.bool (mRight x)) w):=by
 rw[right_eq];obtain⟨p,d,s,h⟩:=x;dsimp only[seatV];obtain⟨hs,hhs⟩:∃hs,hs=rHas p d s:=⟨_,rfl⟩
 have hH:∀W,Calls Tryz.prog 257 #[.int .i64 p,.int .i64 d,.int .i64 s] W (Gives (.bool hs) W):=fun W=>by rw[hhs];exact rhas_any p d s W
 rw[←hhs];have HH:=qq hH;clear hH hhs;by_cases h1:p<1
 · rw[show decide (1≤p∧p≤2∧1≤d∧d≤2)=false by simp;omega,Bool.false_and,Bool.false_and];go_enter Tryz.func201,Tryz.ntmps201;go_wp2_with fail;go_ret;exact⟨ret_bool (by simp),by go_grown⟩
 by_cases h2:2<p
 · rw[show decide (1≤p∧p≤2∧1≤d∧d≤2)=false by simp;omega,Bool.false_and,Bool.false_and];go_enter Tryz.func201,Tryz.ntmps201;go_wp2_with fail;go_ret;exact⟨ret_bool (by simp),by go_grown⟩
 by_cases h3:d<1
 · rw[show decide (1≤p∧p≤2∧1≤d∧d≤2)=false by simp;omega,Bool.false_and,Bool.false_and];go_enter Tryz.func201,Tryz.ntmps201;go_wp2_with fail;go_ret;exact⟨ret_bool (by simp),by go_grown⟩
 by_cases h4:2<d
 · rw[show decide (1≤p∧p≤2∧1≤d∧d≤2)=false by simp;omega,Bool.false_and,Bool.false_and];go_enter Tryz.func201,Tryz.ntmps201;go_wp2_with fail;go_ret;exact⟨ret_bool (by simp),by go_grown⟩
 rw[show decide (1≤p∧p≤2∧1≤d∧d≤2)=true by simp;omega]
 cases hs with
 | false=>
  rw[Bool.true_and,Bool.false_and];go_enter Tryz.func201,Tryz.ntmps201;go_wp2_with (go_at_call 257;refine(HH.out _).mono ?_;rintro e w1 ⟨rfl,rfl⟩);go_ret;exact⟨ret_bool (by simp),by go_grown⟩
 | true=>
  rw[Bool.true_and,Bool.true_and];obtain⟨v,hv⟩:∃v,v=(if s=14 then decide (h=1∨4≤h∧h≤8) else decide (h=0)):=⟨_,rfl⟩
  rw[←hv];have HV:=qq hv;clear hv;go_enter Tryz.func201,Tryz.ntmps201;go_wp2_with (go_at_call 257;refine(HH.out _).mono ?_;rintro e w1 ⟨rfl,rfl⟩)
  all_goals (go_ret;refine⟨ret_bool ?_,by go_grown⟩;rw[HV.out];(try simp only[beq_iff_eq,beq_eq_false_iff_ne,ne_eq] at *);(try simp[*]);first | done | (rw[Bool.eq_iff_iff];simp;done) | (rw[Bool.eq_iff_iff];simp;omega) | omega)
open Ieee
def fnan (x:Nat):Bool:=decide (9218868437227405312<x % 9223372036854775808)
def fkey (x:Nat):Int:=if x<9223372036854775808 then(x:Int) else -((x:Int) - 9223372036854775808)
def fval (r:Nat):Nat:=if r<4503599627370496 then r else(4503599627370496+r % 4503599627370496)*2 ^ (r / 4503599627370496 - 1)
theorem fval_lt {r s:Nat} (h:r<s):fval r<fval s:=by
 unfold fval;by_cases h1:s<4503599627370496
 · rw[if_pos h1,if_pos (by omega)];exact h
 rw[if_neg h1];have hp:0<2 ^ (s / 4503599627370496 - 1):=Nat.two_pow_pos _;by_cases h2:r<4503599627370496
 · rw[if_pos h2]
   calc r<4503599627370496+s % 4503599627370496:=by omega
    _≤_:=Nat.le_mul_of_pos_right _ hp
 rw[if_neg h2];by_cases h3:r / 4503599627370496=s / 4503599627370496
 · rw[h3];exact Nat.mul_lt_mul_of_pos_right (by omega) hp
 · have h4:r / 4503599627370496<s / 4503599627370496:=by omega
   obtain⟨a,ha⟩:∃a,r / 4503599627370496=a+1:=⟨r / 4503599627370496 - 1,by omega⟩
   obtain⟨c,hc⟩:∃c,s / 4503599627370496=a+1+1+c:=⟨s / 4503599627370496 - (a+1) - 1,by omega⟩
   rw[ha,hc,show a+1 - 1=a by omega,show a+1+1+c - 1=a+1+c by omega,Nat.pow_add,Nat.pow_succ];have h5:0<2 ^ a:=Nat.two_pow_pos _;have h6:0<2 ^ c:=Nat.two_pow_pos _
   calc (4503599627370496+r % 4503599627370496)*2 ^ a<(4503599627370496*2)*2 ^ a:=Nat.mul_lt_mul_of_pos_right (by omega) h5
    _=4503599627370496*(2 ^ a*2):=by rw[Nat.mul_assoc,Nat.mul_comm 2]
    _≤4503599627370496*(2 ^ a*2*2 ^ c):=Nat.mul_le_mul_left _ (Nat.le_mul_of_pos_right _ h6)
    _≤_:=Nat.mul_le_mul_right _ (by omega)
theorem fval_zero:fval 0=0:=by decide
theorem read_num (x : Nat) (h : x % 9223372036854775808 < 9218868437227405312) :
    ∃(m i:Nat),double.read x=.number (x / 9223372036854775808 % 2==1) m (double.leastPlace+(i:Int))∧m*2 ^ i=fval (x % 9223372036854775808):=by
 have e1:double.signWeight=9223372036854775808:=by decide
 have e2:double.binade=4503599627370496:=by decide
 have e3:double.infRung=9218868437227405312:=by decide
 unfold Format.read;simp only[e1,e2,e3];by_cases h1:x % 9223372036854775808<4503599627370496
 · rw[if_pos h1];exact⟨x % 9223372036854775808,0,by simp,by unfold fval;rw[if_pos h1];simp⟩
 · rw[if_neg h1,if_pos h];exact⟨_,_,rfl,by unfold fval;rw[if_neg h1]⟩
theorem read_inf (x:Nat) (h:x % 9223372036854775808=9218868437227405312):double.read x=.infinity (x / 9223372036854775808 % 2==1):=by
 have e1:double.signWeight=9223372036854775808:=by decide
 have e2:double.binade=4503599627370496:=by decide
 have e3:double.infRung=9218868437227405312:=by decide
 unfold Format.read;simp only[e1,e2,e3];rw[if_neg (by omega),if_neg (by omega),if_pos h]
theorem read_nan (x:Nat) (h:9218868437227405312<x % 9223372036854775808):∃a b,double.read x=.nan a b:=by
 have e1:double.signWeight=9223372036854775808:=by decide
 have e2:double.binade=4503599627370496:=by decide
 have e3:double.infRung=9218868437227405312:=by decide
 unfold Format.read;simp only[e1,e2,e3];rw[if_neg (by omega),if_neg (by omega),if_neg (by omega)];exact⟨_,_,rfl⟩
def fcmp (a b:Int):Ordering:=if a<b then .lt else if a=b then .eq else .gt
theorem compare_int (a b:Int):compare a b=fcmp a b:=rfl
theorem fcmp_iff {a b c d:Int} (h1:a<b↔c<d) (h2:a=b↔c=d):fcmp a b=fcmp c d:=by
 unfold fcmp;by_cases h:a<b
 · rw[if_pos h,if_pos (h1.1 h)]
 · rw[if_neg h,if_neg (fun e=>h (h1.2 e))];by_cases h':a=b
   · rw[if_pos h',if_pos (h2.1 h')]
   · rw[if_neg h',if_neg (fun e=>h' (h2.2 e))]
def sgn (s:Bool) (m:Nat):Int:=if s then -(m:Int) else(m:Int)
theorem sgn_mul (s:Bool) (m k:Nat):sgn s (m*k)=sgn s m*(k:Int):=by
 unfold sgn;split
 · rw[Int.natCast_mul,Int.neg_mul]
 · rw[Int.natCast_mul]
theorem signed_sgn (s:Bool) (m k:Nat):signed s m k=sgn s (m*2 ^ k):=by
 unfold signed sgn;simp[Nat.shiftLeft_eq]
theorem order_num (s t:Bool) (m n i j:Nat) (L:Int):(Datum.number s m (L+(i:Int))).order (.number t n (L+(j:Int)))=some (fcmp (sgn s (m*2 ^ i)) (sgn t (n*2 ^ j))):=by
 unfold Datum.order;simp only[compare_int,signed_sgn,Option.some.injEq];obtain⟨a,ha⟩:∃a,(L+(i:Int) - min (L+(i:Int)) (L+(j:Int))).toNat=a:=⟨_,rfl⟩
 obtain⟨c,hc⟩:∃c,(L+(j:Int) - min (L+(i:Int)) (L+(j:Int))).toNat=c:=⟨_,rfl⟩
 obtain⟨l,hl⟩:∃l,l=min i j:=⟨_,rfl⟩
 have h1:i=a+l:=by omega
 have h2:j=c+l:=by omega
 rw[ha,hc,h1,h2,Nat.pow_add,Nat.pow_add,←Nat.mul_assoc,←Nat.mul_assoc,sgn_mul s (m*2 ^ a),sgn_mul t (n*2 ^ c)];have hp:(0:Int)<((2 ^ l:Nat):Int):=by exact_mod_cast Nat.two_pow_pos l
 generalize((2 ^ l:Nat):Int)=K at hp;refine fcmp_iff ⟨fun h=>Int.mul_lt_mul_of_pos_right h hp,fun h=>Int.lt_of_mul_lt_mul_right h (Int.le_of_lt hp)⟩ ⟨fun h=>by rw[h],fun h=>Int.eq_of_mul_eq_mul_right (by omega) h⟩
theorem order_keys (x y:Nat) (hx:x<18446744073709551616) (hy:y<18446744073709551616) (nx:fnan x=false) (ny:fnan y=false):double.order x y=some (fcmp (fkey x) (fkey y)):=by
 unfold fnan at nx ny;simp only[decide_eq_false_iff_not] at nx ny;have kx:fkey x=sgn (x / 9223372036854775808 % 2==1) (x % 9223372036854775808):=by
  unfold fkey sgn;by_cases h:x<9223372036854775808
  · have h1:x / 9223372036854775808=0:=by omega
    rw[if_pos h,h1];simp;omega
  · have h1:x / 9223372036854775808=1:=by omega
    rw[if_neg h,h1];simp;omega
 have ky:fkey y=sgn (y / 9223372036854775808 % 2==1) (y % 9223372036854775808):=by
  unfold fkey sgn;by_cases h:y<9223372036854775808
  · have h1:y / 9223372036854775808=0:=by omega
    rw[if_pos h,h1];simp;omega
  · have h1:y / 9223372036854775808=1:=by omega
    rw[if_neg h,h1];simp;omega
 rw[kx,ky];unfold Format.order;have hr:x % 9223372036854775808<9218868437227405312∨x % 9223372036854775808=9218868437227405312:=by omega
 have hq:y % 9223372036854775808<9218868437227405312∨y % 9223372036854775808=9218868437227405312:=by omega
 rcases hr with hr | hr
 · obtain⟨m,i,e1,v1⟩:=read_num x hr;rcases hq with hq | hq
   · obtain⟨n,j,e2,v2⟩:=read_num y hq;rw[e1,e2,order_num,v1,v2];clear e1 e2 v1 v2 kx ky nx ny hx hy;generalize(x / 9223372036854775808 % 2==1)=s;generalize(y / 9223372036854775808 % 2==1)=t;generalize x % 9223372036854775808=r at*;generalize y % 9223372036854775808=q at*;have a1:r<q→fval r<fval q:=fval_lt;have a2:q<r→fval q<fval r:=fval_lt;have a3:r=q→fval r=fval q:=fun e=>by rw[e]
     have a4:0<r→0<fval r:=fun h=>by have:=fval_lt h;rwa[fval_zero] at this
     have a5:0<q→0<fval q:=fun h=>by have:=fval_lt h;rwa[fval_zero] at this
     have a6:r=0→fval r=0:=fun e=>by rw[e,fval_zero]
     have a7:q=0→fval q=0:=fun e=>by rw[e,fval_zero]
     generalize fval r=R at*;generalize fval q=Q at*;refine congrArg some (fcmp_iff ?_ ?_)<;>(unfold sgn;cases s<;>cases t<;>simp only[Bool.false_eq_true,if_false,if_true]<;>constructor<;>intro h<;>omega)
   · rw[e1,read_inf y hq,hq];generalize(x / 9223372036854775808 % 2==1)=s;generalize(y / 9223372036854775808 % 2==1)=t;unfold Datum.order
     cases t
     · simp only[Bool.false_eq_true,if_false];unfold fcmp sgn;rw[if_pos (by cases s<;>simp only[Bool.false_eq_true,if_false,if_true]<;>omega)]
     · simp only[if_true];unfold fcmp sgn;rw[if_neg (by cases s<;>simp only[Bool.false_eq_true,if_false,if_true]<;>omega),if_neg (by cases s<;>simp only[Bool.false_eq_true,if_false,if_true]<;>omega)]
 · rcases hq with hq | hq
   · obtain⟨n,j,e2,v2⟩:=read_num y hq;rw[e2,read_inf x hr,hr];generalize(x / 9223372036854775808 % 2==1)=s;generalize(y / 9223372036854775808 % 2==1)=t;unfold Datum.order
     cases s
     · simp only[Bool.false_eq_true,if_false];unfold fcmp sgn;rw[if_neg (by cases t<;>simp only[Bool.false_eq_true,if_false,if_true]<;>omega),if_neg (by cases t<;>simp only[Bool.false_eq_true,if_false,if_true]<;>omega)]
     · simp only[if_true];unfold fcmp sgn;rw[if_pos (by cases t<;>simp only[Bool.false_eq_true,if_false,if_true]<;>omega)]
   · rw[read_inf x hr,read_inf y hq,hr,hq];generalize(x / 9223372036854775808 % 2==1)=s;generalize(y / 9223372036854775808 % 2==1)=t
     cases s<;>cases t<;>decide
theorem order_nan (x y:Nat) (h:fnan x=true∨fnan y=true):double.order x y=none:=by
 unfold fnan at h;simp only[decide_eq_true_eq] at h;unfold Format.order;rcases h with h | h
 · obtain⟨a,b,e⟩:=read_nan x h;rw[e];rfl
 · obtain⟨a,b,e⟩:=read_nan y h;rw[e];generalize double.read x=d
   cases d<;>rfl
abbrev flV (x:Nat):Value:=.float .f64 x
def F64 (x:Nat):Prop:=x<18446744073709551616
def fle (x y:Nat):Bool:= !fnan x && !fnan y && decide (fkey x≤fkey y)
def flt (x y:Nat):Bool:= !fnan x && !fnan y && decide (fkey x<fkey y)
def feq (x y:Nat):Bool:= !fnan x && !fnan y && decide (fkey x=fkey y)
theorem ford_some (x y:Nat) (hx:F64 x) (hy:F64 y):FloatKind.f64.format.order x y=if fnan x=true∨fnan y=true then none else some (fcmp (fkey x) (fkey y)):=by
 show Ieee.double.order x y=_
 split
 · rename_i h;exact order_nan x y h
 · rename_i h
   simp only[not_or,Bool.not_eq_true] at h;exact order_keys x y hx hy h.1 h.2
theorem run_feq (x y:Nat) (hx:F64 x) (hy:F64 y):(FloatKind.f64.format.order x y==some .eq)=feq x y:=by
 rw[ford_some x y hx hy];unfold feq
 cases fnan x<;>cases fnan y<;>simp[fcmp]
 split<;>(try split)<;>simp<;>omega
theorem run_flt (x y:Nat) (hx:F64 x) (hy:F64 y):(FloatKind.f64.format.order x y==some .lt)=flt x y:=by
 rw[ford_some x y hx hy];unfold flt
 cases fnan x<;>cases fnan y<;>simp[fcmp]
 split<;>(try split)<;>simp<;>omega
theorem run_fgt (x y:Nat) (hx:F64 x) (hy:F64 y):(FloatKind.f64.format.order x y==some .gt)=flt y x:=by
 rw[ford_some x y hx hy];unfold flt
 cases fnan x<;>cases fnan y<;>simp[fcmp]
 split<;>(try split)<;>simp<;>omega
theorem run_fge (x y:Nat) (hx:F64 x) (hy:F64 y):(FloatKind.f64.format.order x y==some .gt || FloatKind.f64.format.order x y==some .eq)=fle y x:=by
 rw[run_feq x y hx hy,run_fgt x y hx hy];unfold feq flt fle
 cases fnan x<;>cases fnan y<;>simp
 rw[Bool.eq_iff_iff];simp;omega
theorem f64_zero:F64 0:=by unfold F64;omega
def fdelay (x:Nat):Bool:= !fnan x && decide (x≤9223372036854775808)
def fplain (x:Nat):Nat:=if fnan x=true then 9221120237041090561 else if x=9223372036854775808 then 0 else x
def fclass (x:Nat):Int:=if fnan x=true then 2 else if x=9223372036854775808 then 0 else 1
def fplace (x:Nat):Int:=if fnan x=true then 18446744073709551615 else if x<9223372036854775808 then x else -1 - ((x:Int) - 9223372036854775808)
def forder (a b:Nat):Int:=if fplace a<fplace b then -1 else if fplace b<fplace a then 1 else 0
theorem fle_zero (x:Nat) (hx:F64 x):fle 0 x=fdelay x:=by
 unfold fle fdelay fkey;rw[show fnan 0=false by decide]
 cases fnan x<;>simp
 unfold F64 at hx;split<;>omega
theorem bits_run (x:Nat) (w:World):(callFunc 256 #[flV x]).run Tryz.prog w=.ok (.value (.int .u64 x)) w:=by
 rw[run_callFunc_extern (e:=Extern.MathFloatBits.float64bits) Tryz.func256 (by kernel_rfl) (by kernel_rfl) (by kernel_rfl) (by kernel_rfl)];rfl
theorem frombits_run (x:Int) (w:World):(callFunc 208 #[.int .u64 x]).run Tryz.prog w=.ok (.value (flV x.toNat)) w:=by
 rw[run_callFunc_extern (e:=Extern.MathFloatBits.float64frombits) Tryz.func208 (by kernel_rfl) (by kernel_rfl) (by kernel_rfl) (by kernel_rfl)];rfl
theorem raw_of (x:Nat) (w:World):Calls Tryz.prog 200 #[flV x] w (Gives (.int .u64 x) w):=by
 have hb:=bits_run x;go_enter Tryz.func200,Tryz.ntmps200;go_wp2;go_ret;exact⟨rfl,rfl⟩
theorem and_low (x:Nat) (hx:F64 x):bits .and .u64 (x:Int) 9223372036854775807=((x % 9223372036854775808:Nat):Int):=by
 unfold F64 at hx;have h1:(BitVec.ofInt 64 (x:Int)).toNat=x:=by simp;omega
 have h2:(BitVec.ofInt 64 9223372036854775807).toNat=2 ^ 63 - 1:=by decide
 have h3:(BitVec.ofInt 64 (x:Int) &&& BitVec.ofInt 64 9223372036854775807).toNat=x % 9223372036854775808:=by
  rw[BitVec.toNat_and,h1,h2,Nat.and_two_pow_sub_one_eq_mod]
 show IntKind.u64.wrap ((BitVec.ofInt 64 (x:Int) &&& BitVec.ofInt 64 9223372036854775807).toNat:Int)=_
 rw[h3];exact IntWalk.u64_in _ (by omega)
theorem rnan_of (x:Nat) (hx:F64 x) (w:World):Calls Tryz.prog 218 #[flV x] w (Gives (.bool (fnan x)) w):=by
 have hb:=bits_run x;have hm:=and_low x hx;go_enter Tryz.func218,Tryz.ntmps218;go_wp2;go_ret;exact⟨ret_bool (by unfold fnan;rw[Bool.eq_iff_iff];simp only[decide_eq_true_eq];omega),rfl⟩
theorem rbits_of (x:Nat) (hx:F64 x) (w:World):Calls Tryz.prog 120 #[flV x] w (Gives (.int .u64 (fplain x:Nat)) w):=by
 unfold fplain;obtain⟨n,hn⟩:∃n,n=fnan x:=⟨_,rfl⟩
 have hN:=fun W=>rnan_of x hx W
 rw[←hn] at hN⊢;have HN:=qq hN;clear hN hn;have HR:=qq (fun W=>raw_of x W)
 cases n
 · by_cases h0:x=9223372036854775808
   · subst h0;go_enter Tryz.func120,Tryz.ntmps120;go_wp2_with (first | (go_at_call 218;refine(HN.out _).mono ?_;rintro e w1 ⟨rfl,rfl⟩) | (go_at_call 200;refine(HR.out _).mono ?_;rintro e w1 ⟨rfl,rfl⟩));go_ret;exact⟨rfl,rfl⟩
   · have h1:¬((x:Int)=9223372036854775808):=by omega
     simp only[h0,if_false];go_enter Tryz.func120,Tryz.ntmps120;go_wp2_with (first | (go_at_call 218;refine(HN.out _).mono ?_;rintro e w1 ⟨rfl,rfl⟩) | (go_at_call 200;refine(HR.out _).mono ?_;rintro e w1 ⟨rfl,rfl⟩));go_ret;exact⟨rfl,rfl⟩
 · go_enter Tryz.func120,Tryz.ntmps120;go_wp2_with (first | (go_at_call 218;refine(HN.out _).mono ?_;rintro e w1 ⟨rfl,rfl⟩));go_ret;exact⟨rfl,rfl⟩
theorem fdelay_cases (x:Nat):(fnan x=false→(x:Int)≤9223372036854775808→fdelay x=true)∧(fnan x=true→fdelay x=false)∧(9223372036854775808<(x:Int)→fdelay x=false):=by
 unfold fdelay;refine⟨fun h1 h2=> ?_,fun h1=> ?_,fun h1=> ?_⟩
 · rw[h1,Bool.not_false,Bool.true_and,decide_eq_true_eq];omega
 · rw[h1,Bool.not_true,Bool.false_and]
 · rw[decide_eq_false (by omega),Bool.and_false]
theorem rdelay_a (x:Nat) (w:World) (hN:∀W,Calls Tryz.prog 218 #[flV x] W (Gives (.bool false) W)) (hR:∀W,Calls Tryz.prog 200 #[flV x] W (Gives (.int .u64 x) W)) (h1:(x:Int)<9223372036854775808):Calls Tryz.prog 223 #[flV x] w (Gives (.bool true) w):=by
 go_enter Tryz.func223,Tryz.ntmps223;go_wp2_with (first | (go_at_call 218;refine(hN _).mono ?_;rintro e w1 ⟨rfl,rfl⟩) | (go_at_call 200;refine(hR _).mono ?_;rintro e w1 ⟨rfl,rfl⟩));go_ret;exact⟨ret_bool (by simp[h1]),rfl⟩
theorem rdelay_b (w:World) (hN:∀W,Calls Tryz.prog 218 #[flV 9223372036854775808] W (Gives (.bool false) W)) (hR:∀W,Calls Tryz.prog 200 #[flV 9223372036854775808] W (Gives (.int .u64 9223372036854775808) W)):Calls Tryz.prog 223 #[flV 9223372036854775808] w (Gives (.bool true) w):=by
 go_enter Tryz.func223,Tryz.ntmps223;go_wp2_with (first | (go_at_call 218;refine(hN _).mono ?_;rintro e w1 ⟨rfl,rfl⟩) | (go_at_call 200;refine(hR _).mono ?_;rintro e w1 ⟨rfl,rfl⟩));go_ret;exact⟨ret_bool (by simp),rfl⟩
theorem rdelay_c (x:Nat) (y:Int) (w:World) (hN:∀W,Calls Tryz.prog 218 #[flV x] W (Gives (.bool false) W)) (hR:∀W,Calls Tryz.prog 200 #[flV x] W (Gives (.int .u64 y) W)) (h1:¬y<9223372036854775808) (h2:¬y=9223372036854775808):Calls Tryz.prog 223 #[flV x] w (Gives (.bool false) w):=by
 go_enter Tryz.func223,Tryz.ntmps223;go_wp2_with (first | (go_at_call 218;refine(hN _).mono ?_;rintro e w1 ⟨rfl,rfl⟩) | (go_at_call 200;refine(hR _).mono ?_;rintro e w1 ⟨rfl,rfl⟩));go_ret;exact⟨ret_bool (by simp[h2];exact h1),rfl⟩
theorem rdelay_d (x:Nat) (w:World) (hN:∀W,Calls Tryz.prog 218 #[flV x] W (Gives (.bool true) W)) (hR:∀W,Calls Tryz.prog 200 #[flV x] W (Gives (.int .u64 x) W)):Calls Tryz.prog 223 #[flV x] w (Gives (.bool false) w):=by
 go_enter Tryz.func223,Tryz.ntmps223;go_wp2_with (first | (go_at_call 218;refine(hN _).mono ?_;rintro e w1 ⟨rfl,rfl⟩) | (go_at_call 200;refine(hR _).mono ?_;rintro e w1 ⟨rfl,rfl⟩));go_ret;exact⟨ret_bool (by simp),rfl⟩
theorem rdelay_of (x:Nat) (hx:F64 x) (w:World):Calls Tryz.prog 223 #[flV x] w (Gives (.bool (fdelay x)) w):=by
 have hN:=fun W=>rnan_of x hx W
 have hr:=fdelay_cases x;have hR:=fun W=>raw_of x W
 cases hn:fnan x with
 | true=>
  rw[hn] at hN;rw[hr.2.1 hn];exact rdelay_d x w hN hR
 | false=>
  rw[hn] at hN;by_cases h1:(x:Int)<9223372036854775808
  · rw[hr.1 hn (by omega)];exact rdelay_a x w hN hR h1
  · by_cases h2:(x:Int)=9223372036854775808
    · rw[hr.1 hn (by omega)];obtain rfl:x=9223372036854775808:=by omega
      exact rdelay_b w hN hR
    · rw[hr.2.2 (by omega)];exact rdelay_c x (x:Int) w hN hR h1 h2
theorem sign_pos (x:Nat) (y:Int) (hy:0≤wrap64 y) (hb:∀w,(callFunc 256 #[flV x]).run Tryz.prog w=.ok (.value (.int .u64 y)) w) (w:World):Calls Tryz.prog 290 #[flV x] w (Gives (.bool false) w):=by
 go_enter Tryz.func290,Tryz.ntmps290;go_wp2;go_ret;exact⟨ret_bool (by first | rfl | (simp[hy];done) | (simp;exact hy)),rfl⟩
theorem sign_neg (x:Nat) (y:Int) (hy:wrap64 y<0) (hb:∀w,(callFunc 256 #[flV x]).run Tryz.prog w=.ok (.value (.int .u64 y)) w) (w:World):Calls Tryz.prog 290 #[flV x] w (Gives (.bool true) w):=by
 go_enter Tryz.func290,Tryz.ntmps290;go_wp2;go_ret;exact⟨ret_bool (by first | rfl | (simp[hy];done) | (simp;exact hy)),rfl⟩
theorem sign_of (x:Nat) (hx:F64 x) (w:World):(x<9223372036854775808→Calls Tryz.prog 290 #[flV x] w (Gives (.bool false) w))∧(9223372036854775808≤x→Calls Tryz.prog 290 #[flV x] w (Gives (.bool true) w)):=by
 unfold F64 at hx;constructor
 · intro h;exact sign_pos x (x:Int) (by unfold wrap64;omega) (bits_run x) w
 · intro h;exact sign_neg x (x:Int) (by unfold wrap64;omega) (bits_run x) w
theorem class_a (x:Nat) (h1:(FloatKind.f64.format.order x x !=some .eq)=true) (w:World):Calls Tryz.prog 254 #[flV x] w (Gives (.int .i64 2) w):=by
 go_enter Tryz.func254,Tryz.ntmps254;go_wp2;go_ret;exact⟨rfl,rfl⟩
theorem class_b (x:Nat) (h1:(FloatKind.f64.format.order x x !=some .eq)=false) (h2:(FloatKind.f64.format.order x 0==some .eq)=false) (w:World):Calls Tryz.prog 254 #[flV x] w (Gives (.int .i64 1) w):=by
 go_enter Tryz.func254,Tryz.ntmps254;go_wp2;go_ret;exact⟨rfl,rfl⟩
theorem class_c (x:Nat) (h1:(FloatKind.f64.format.order x x !=some .eq)=false) (h2:(FloatKind.f64.format.order x 0==some .eq)=true) (hs:∀W,Calls Tryz.prog 290 #[flV x] W (Gives (.bool false) W)) (w:World):Calls Tryz.prog 254 #[flV x] w (Gives (.int .i64 1) w):=by
 go_enter Tryz.func254,Tryz.ntmps254;go_wp2_with (go_at_call 290;refine(hs _).mono ?_;rintro e w1 ⟨rfl,rfl⟩);go_ret;exact⟨rfl,rfl⟩
theorem class_d (x:Nat) (h1:(FloatKind.f64.format.order x x !=some .eq)=false) (h2:(FloatKind.f64.format.order x 0==some .eq)=true) (hs:∀W,Calls Tryz.prog 290 #[flV x] W (Gives (.bool true) W)) (w:World):Calls Tryz.prog 254 #[flV x] w (Gives (.int .i64 0) w):=by
 go_enter Tryz.func254,Tryz.ntmps254;go_wp2_with (go_at_call 290;refine(hs _).mono ?_;rintro e w1 ⟨rfl,rfl⟩);go_ret;exact⟨rfl,rfl⟩
theorem class_of (x:Nat) (hx:F64 x) (w:World):Calls Tryz.prog 254 #[flV x] w (Gives (.int .i64 (fclass x)) w):=by
 have e1:(FloatKind.f64.format.order x x !=some .eq)=fnan x:=by
  rw[bne,run_feq x x hx hx];unfold feq;cases fnan x<;>simp
 have e2:=run_feq x 0 hx f64_zero;have h0:fkey 0=0:=by decide
 have hn0:fnan 0=false:=by decide
 unfold fclass
 cases hn:fnan x with
 | true=>
  rw[hn] at e1;exact class_a x e1 w
 | false=>
  rw[hn] at e1;unfold feq at e2;rw[hn,hn0,h0] at e2;simp only[Bool.not_false,Bool.true_and,Bool.false_eq_true,if_false] at e2⊢;by_cases h1:x=9223372036854775808
  · have:fkey x=0:=by rw[h1];decide
    rw[decide_eq_true this] at e2;rw[if_pos h1];exact class_d x e1 e2 (fun W=>(sign_of x hx W).2 (by omega)) w
  · rw[if_neg h1];by_cases h2:x=0
    · have:fkey x=0:=by rw[h2];decide
      rw[decide_eq_true this] at e2;exact class_c x e1 e2 (fun W=>(sign_of x hx W).1 (by omega)) w
    · have:¬fkey x=0:=by unfold fkey;unfold F64 at hx;split<;>omega
      rw[decide_eq_false this] at e2;exact class_b x e1 e2 w
theorem nan_of (w:World):Calls Tryz.prog 294 #[] w (Gives (flV 9221120237041090561) w):=by
 have hf:=frombits_run 9221120237041090561;go_enter Tryz.func294,Tryz.ntmps294;go_wp2;go_ret;exact⟨rfl,rfl⟩
theorem plain_of (x:Nat) (hx:F64 x) (w:World):Calls Tryz.prog 267 #[flV x] w (Gives (flV (fplain x)) w):=by
 have hC:=fun W=>class_of x hx W
 unfold fclass at hC;unfold fplain;have HN:=qq nan_of
 cases hn:fnan x with
 | true=>
  simp only[hn,if_true] at hC⊢;clear hx hn;go_enter Tryz.func267,Tryz.ntmps267;go_wp2_with (first | (go_at_call 254;refine(hC _).mono ?_;rintro e w1 ⟨rfl,rfl⟩) | (go_at_call 294;refine(HN.out _).mono ?_;rintro e w1 ⟨rfl,rfl⟩));go_ret;exact⟨rfl,rfl⟩
 | false=>
  simp only[hn,Bool.false_eq_true,if_false] at hC⊢;by_cases h1:x=9223372036854775808
  · rw[if_pos h1];simp only[h1,if_true] at hC;subst h1;clear hx hn;go_enter Tryz.func267,Tryz.ntmps267;go_wp2_with (first | (go_at_call 254;refine(hC _).mono ?_;rintro e w1 ⟨rfl,rfl⟩));go_ret;exact⟨rfl,rfl⟩
  · rw[if_neg h1];simp only[h1,if_false] at hC;clear hx hn h1;go_enter Tryz.func267,Tryz.ntmps267;go_wp2_with (first | (go_at_call 254;refine(hC _).mono ?_;rintro e w1 ⟨rfl,rfl⟩));go_ret;exact⟨rfl,rfl⟩
theorem delay_yes (x:Nat) (hx:F64 x) (hd:fdelay x=true) (w:World):Calls Tryz.prog 221 #[flV x] w (Gives (.tuple #[flV (fplain x),.nilIface]) w):=by
 have HP:=qq (fun W=>plain_of x hx W);have e1:=run_fge x 0 hx f64_zero;rw[fle_zero x hx,hd] at e1;clear hx hd;go_enter Tryz.func221,Tryz.ntmps221;go_wp2_with (first | (go_at_call 267;refine(HP.out _).mono ?_;rintro e w1 ⟨rfl,rfl⟩));go_ret2;exact⟨rfl,rfl⟩
theorem delay_no (x:Nat) (hx:F64 x) (hd:fdelay x=false) (a:Addr) (w:World) (he:ErrIs w 3 a):Calls Tryz.prog 221 #[flV x] w (Makes (.tuple #[flV 0,errV a]) w):=by
 have e1:=run_fge x 0 hx f64_zero;rw[fle_zero x hx,hd] at e1;have h1:w.cell? ⟨3,0,none⟩=some (errV a):=he;clear hx hd he;go_enter Tryz.func221,Tryz.ntmps221;go_wp2_with fail;go_region
 all_goals go_wp2
 all_goals go_ret2
 all_goals exact⟨rfl,by go_grown⟩
def Fails (v:Value) (w:World) (e:Ending) (w':World):Prop:=e=.panicked [{v:=v,recovered:=false}]∧Below w.heap.size w w'
theorem told1_of (n m : Int) (hn : 1 ≤ n ∧ n ≤ 14) (hm : 1 ≤ m ∧ m ≤ 14) (ea : Int → Addr) (ka : Addr) (w : World) (h : Errs ea w) (hk : w.cell? ka = some (errV (ea n))) :
    Calls Tryz.prog 264 #[errV (ea m),.pointer (some ka)] w (Makes (.bool (n==m)) w):=by
 have hlt:=lt_of_cell hk;by_cases hnm:n=m
 · subst hnm;rw[show(n==n)=true by simp];clear h;go_enter Tryz.func264,Tryz.ntmps264;go_wp2_with fail;refine(is_same _ _).mono ?_;rintro e w' ⟨rfl,rfl⟩;go_wp2_with fail;go_ret;exact⟨rfl,by go_grown⟩
 · rw[show(n==m)=false by simpa using hnm];have hne:ea n≠ea m:=fun he=>hnm (h.ne _ _ hn.1 hn.2 hm.1 hm.2 he)
   have HE:=qq h;have HN:=qq hne;clear h hne hnm;go_enter Tryz.func264,Tryz.ntmps264;go_wp2_with fail;obtain⟨c1,t1,r1⟩:=HE.out.row n hn.1 hn.2;obtain⟨c2,t2,r2⟩:=HE.out.row m hm.1 hm.2;refine(is_other _ _ _ _ _ _ _ HN.out r1 r2).mono ?_;rintro e w' ⟨rfl,rfl⟩;go_wp2_with fail;go_ret;exact⟨rfl,by go_grown⟩
def Own14 (ea:Int→Addr) (w:World) (b:Nat):Prop:=b<w.heap.size∧∀j:Nat,j<14→w.cell? ⟨b,j,none⟩=some (errV (ea ((j:Int)+1)))
theorem Own14.below {ea:Int→Addr} {w w':World} {b:Nat} (h:Own14 ea w b) (hb:Below w.heap.size w w'):Own14 ea w' b:=
 ⟨Nat.lt_of_lt_of_le h.1 hb.size,fun j hj=>(hb.cell (p:=⟨b,j,none⟩) h.1).trans (h.2 j hj)⟩
theorem indexe_of (n : Int) (hn : 1 ≤ n ∧ n ≤ 14) (ea : Int → Addr) (ka : Addr) (b : Nat) (w : World) (h : Errs ea w) (hk : w.cell? ka = some (errV (ea n))) (ho : Own14 ea w b) :
    Calls Tryz.prog 262 #[.slice (some ⟨b,0,none⟩) 14 14,.func (.func 264) #[] #[.pointer (some ka)]] w (Makes (.int .i64 (n - 1)) w):=by
 have hlt:=lt_of_cell hk;have HR:=qq ho;clear ho;have HE:=qq h;clear h;go_enter Tryz.func262,Tryz.ntmps262;go_wp2;go_loopw [8] (fun i wr=>∃j:Nat,(j:Int)+1≤n∧i=.int .i64 j∧Below w.heap.size w wr) (fun i _=>14 - (intOf i).toNat)
 case atStart=>exact⟨0,by omega,rfl,Below.refl _ _⟩
 case round=>
  obtain⟨j,hj,rfl,hb⟩:=hrel;have hkr:wr.cell? ka=some (errV (ea n)):=(hb.cell (p:=ka) hlt).trans hk;have h1:=(HR.out.below hb).2 j (by omega);have hj14:j<14:=by omega
  go_wp2_with (go_at_call 264;refine(told1_of n _ hn ⟨by omega,by omega⟩ ea _ _ (HE.out.below hb) hkr).mono ?_;rintro e w' ⟨rfl,hb'⟩)
  · have he:(n==(j:Int)+1)=true:=by assumption
    go_ret;exact⟨ret_int (by simp at he;omega),hb.trans (hb'.mono hb.size)⟩
  · have he:(n==(j:Int)+1)=false:=by assumption
    go_roundw
    case rel=>exact⟨j+1,by simp at he;omega,by go_num,hb.trans (hb'.mono hb.size)⟩
    case measure=>simp[intOf];omega
open Go.RowKit Go.Stop Go.Extern.Stop
def own14 (ea:Int→Addr):Array Value:= #[errV (ea 1),errV (ea 2),errV (ea 3),errV (ea 4),errV (ea 5),errV (ea 6),errV (ea 7),errV (ea 8),errV (ea 9),errV (ea 10),errV (ea 11),errV (ea 12),errV (ea 13),errV (ea 14)]
theorem own14_of {ea:Int→Addr} (w:World):Own14 ea (w.alloc (.cells (own14 ea) 26)) w.heap.size:=by
 refine⟨by simp,fun j hj=> ?_⟩;rw[World.cell?_alloc_new]
 match j,hj with
 | 0,_ | 1,_ | 2,_ | 3,_ | 4,_ | 5,_ | 6,_ | 7,_ | 8,_ | 9,_ | 10,_ | 11,_ | 12,_ | 13,_=>rfl
theorem own_of (ea:Int→Addr) (w:World) (h:Errs ea w):Calls Tryz.prog 263 #[] w (fun e w'=>e=.returned (.slice (some ⟨w.heap.size,0,none⟩) 14 14)∧w'=w.alloc (.cells (own14 ea) 26)):=by
 have h1:w.cell? ⟨0,0,none⟩=some (errV (ea 1)):=h.e1;have h2:w.cell? ⟨1,0,none⟩=some (errV (ea 2)):=h.e2;have h3:w.cell? ⟨2,0,none⟩=some (errV (ea 3)):=h.e3;have h4:w.cell? ⟨3,0,none⟩=some (errV (ea 4)):=h.e4;have h5:w.cell? ⟨4,0,none⟩=some (errV (ea 5)):=h.e5;have h6:w.cell? ⟨5,0,none⟩=some (errV (ea 6)):=h.e6;have h7:w.cell? ⟨6,0,none⟩=some (errV (ea 7)):=h.e7
 have h8:w.cell? ⟨7,0,none⟩=some (errV (ea 8)):=h.e8;have h9:w.cell? ⟨8,0,none⟩=some (errV (ea 9)):=h.e9;have h10:w.cell? ⟨9,0,none⟩=some (errV (ea 10)):=h.e10;have h11:w.cell? ⟨10,0,none⟩=some (errV (ea 11)):=h.e11;have h12:w.cell? ⟨11,0,none⟩=some (errV (ea 12)):=h.e12;have h13:w.cell? ⟨12,0,none⟩=some (errV (ea 13)):=h.e13;have h14:w.cell? ⟨13,0,none⟩=some (errV (ea 14)):=h.e14;clear h
 go_enter Tryz.func263,Tryz.ntmps263;go_wp2_with fail;go_ret;exact⟨rfl,rfl⟩
theorem isErr (v:Value) (xT:TypeId) (w:World):(Instr.typeAssert (.iface 387 v) xT 26 true).run Tryz.prog w=.ok (.tuple #[.iface 387 v,.bool true]) w:=run_typeAssert_hasB Tryz.underlying26 (by kernel_rfl) v xT w
theorem told_of (n:Int) (hn:1≤n∧n≤14) (ea:Int→Addr) (w:World) (h:Errs ea w):Calls Tryz.prog 210 #[errV (ea n)] w (Makes (errV (ea n)) w):=by
 have hta:=isErr (.pointer (some (ea n))) 20;have hmf:∀(fn:Fn) (first cap:Array Value) (w:World),(Instr.makeFunc fn first cap).run Tryz.prog w=.ok (.func fn first cap) w:=fun _ _ _ _=>rfl
 have HE:=qq h;obtain⟨j,hj⟩:∃j:Nat,n=(j:Int)+1:=⟨(n - 1).toNat,by omega⟩
 have hs:n - 1=(j:Int):=by omega
 have hj14:j<14:=by omega
 have HI:Hid (∀(ka:Addr) (b:Nat) (W:World),Errs ea W→W.cell? ka=some (errV (ea n))→Own14 ea W b→Calls Tryz.prog 262 #[.slice (some ⟨b,0,none⟩) 14 14,.func (.func 264) #[] #[.pointer (some ka)]] W (Makes (.int .i64 (j:Int)) W)):=qq (fun ka b W hE hk ho=>by have:=indexe_of n hn ea ka b W hE hk ho;rw[hs] at this;exact this);obtain⟨o,ho⟩:∃o,o=Obj.cells (own14 ea) 26:=⟨_,rfl⟩
 have HO:Hid (∀W:World,Errs ea W→Calls Tryz.prog 263 #[] W (fun e w'=>e=.returned (.slice (some ⟨W.heap.size,0,none⟩) 14 14)∧w'=W.alloc o)):=qq (fun W hW=>by rw[ho];exact own_of ea W hW);have hO1:∀W:World,Own14 ea (W.alloc o) W.heap.size:=fun W=>by rw[ho];exact own14_of W
 have hO2:∀W:World,(W.alloc o).cell? ⟨W.heap.size,j,none⟩=some (errV (ea n)):=fun W=>by rw[(hO1 W).2 j (by omega),←hj]
 obtain⟨ev,hev⟩:∃ev,ev=errV (ea n):=⟨_,rfl⟩
 have HO1:=qq hO1;have HO2:=qq hO2;clear h hs hn hj ho hO1 hO2;go_enter Tryz.func210,Tryz.ntmps210;go_wp2_with fail;refine(HO.out _ (HE.out.below (by go_grown))).mono ?_;rintro e w1 ⟨rfl,rfl⟩;go_wp2_with fail;have HQ:Own14 ea ((w.alloc (.cells #[errV (ea n)] 26)).alloc o) (w.heap.size+1):=by
  have:=HO1.out (w.alloc (.cells #[errV (ea n)] 26));rwa[World.size_alloc] at this
 refine(HI.out _ _ _ (HE.out.below (by go_grown)) (by simp) HQ).mono ?_;rintro e w2 ⟨rfl,hb2⟩;have B2:Below w.heap.size w w2:=below_then (by go_grown) hb2;go_wp2_with fail;refine(HO.out _ (HE.out.below B2)).mono ?_;rintro e w3 ⟨rfl,rfl⟩;have hq:=HO2.out w2;go_wp2_with fail;go_ret;exact⟨rfl,B2.alloc B2.size _⟩
abbrev Str:=List UInt8
def bs (l:Str):ByteArray:=⟨l.toArray⟩
theorem bs_size (l:Str):(bs l).size=l.length:=by simp[bs,ByteArray.size]
theorem data_inj {a b:ByteArray} (h:a.data.toList=b.data.toList):a=b:=by
 cases a;cases b;simp at h;subst h;rfl
structure Ev where
 step:Int
 what:Str
 node:Int
 first:Str
 second:Str
deriving DecidableEq
inductive Said where
 | ev (e:Ev)
 | no (n:Int)
deriving DecidableEq
def Said.num:Said→Int
 | .ev _=>0
 | .no n=>n
end Go.Proofs.YtlkajejbfojkeaaGreatDoor
