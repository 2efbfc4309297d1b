/- StoV, StepM, StepR, LoS, Acts, LoA, LoD, SmA, SmB, LwA, SpA -/
import Derived.Test.YtlkajejbfojkeaaGreatDoorWQq
import Derived.Test.YtlkajejbfojkeaaGreatDoorRows
import Derived.WalkKit
import Derived.WalkSpells
import Derived.WalkLawsBesides
import Derived.BigQuiet
import Derived.Deep.QuietTactic
import Derived.StillTailTactics
import Derived.Handy
import Derived.Lib.Hide
import Derived.Test.YtlkajejbfojkeaaGreatDoorWTabLToStoE
import Derived.Test.YtlkajejbfojkeaaGreatDoorWStoGToFacE
import Derived.Test.YtlkajejbfojkeaaGreatDoorWStoSToRfcA
import Derived.Test.YtlkajejbfojkeaaGreatDoorWMovCToStoP
import Derived.Maps.AppendAt
import Derived.Test.YtlkajejbfojkeaaGreatDoorWFacB
import Derived.Test.YtlkajejbfojkeaaGreatDoorWLdAToLdB
import Derived.Laws.FloatArith
import Derived.Lib.SmallJoins
import Derived.Test.YtlkajejbfojkeaaGreatDoorWRfcBToJoA
import Derived.Test.YtlkajejbfojkeaaGreatDoorWRstBToTabN
import Derived.Deep.AppendLies
import Derived.Test.YtlkajejbfojkeaaGreatDoorWTabPlainToMovB
set_option linter.unusedSimpArgs false
set_option linter.unusedVariables false
set_option maxRecDepth 100000
set_option maxHeartbeats 16000000
namespace Go.Proofs.YtlkajejbfojkeaaGreatDoor
open Go.RowKit
attribute [local go_sem] store_float
theorem next_of (L:SLoc) (S:Sto) (w:World) (h:StoreAt L S w):Calls Tryz.prog 95 #[.pointer (some ⟨L.sb,0,none⟩)] w (Gives (.int .i64 S.next) w):=by
 have c0:w.cell? ⟨L.sb,1,none⟩=some (.int .i64 S.next):=h.blk.cell 1;clear h;generalize S.next=x at*;go_enter Tryz.func95,Tryz.ntmps95;go_wp2;go_ret;exact⟨rfl,rfl⟩
theorem clonePart_of (v : Value) (xs : List SPart) (w : World) (h : w.ownsRow 0 61 7 v xs.length (partsL xs)) (hl : xs.length ≤ 1000) :
    Calls Tryz.prog 101 #[v] w fun e w'=>∃v',e=.returned v'∧w'.ownsRow w.heap.size 61 7 v' xs.length (partsL xs)∧Below w.heap.size w w':=by
 obtain⟨i0,ei,ez,es,eb⟩:=info_parts infoPart;have q22:∀(w:World) (a:Option Addr) (n c n' c':Nat),(binOp .eql 58 (.slice a n c) (.slice none n' c')).run Tryz.prog w=.ok (.bool a.isNone) w:=fun w a n c n' c'=>Lib.run_eql_slice_nil w _ _ a n c n' c' Tryz.underlying58
 rcases h.2 with⟨rfl,h0⟩ | ⟨g,cap,cur,rfl,hb,hg,hnc,hcm,hcs,htake⟩
 · have hx:xs=[]:=List.eq_nil_of_length_eq_zero h0;subst hx;clear h h0;go_enter Tryz.func101,Tryz.ntmps101;go_wp2;go_ret;exact⟨_,rfl,World.ownsRow_nil _ _ _ _,Below.refl _ _⟩
 · have hown0:(w.alloc (.cells #[] 61)).ownsRow w.heap.size 61 7 (.slice (some ⟨w.heap.size,0,none⟩) 0 0) 0 []:=
    World.ownsRow_lit w #[] 0 (Nat.le_refl _) (by decide) rfl
   have hcells:Hid (∀j u,(partsL xs)[j]? =some u→(w.alloc (.cells #[] 61)).cell? ((⟨g,0,none⟩:Addr).add j)=some u):=(h.alloc _).cells (g:=g) rfl;have h1:Hid (∀u∈partsL xs,u.oneCell'=true):=flat_one partL partL_one xs;have hlen:Hid ((partsL xs).length=xs.length*7):=flat_length _ 7 partL_len xs;clear htake hcs hg h;obtain⟨n,hn⟩:∃n,n=xs.length:=⟨_,rfl⟩
   rw[←hn] at hl hnc hlen⊢;clear hn;go_enter Tryz.func101,Tryz.ntmps101
   go_wp2_with (at_builtin;go_loud (refine wpList_append_own_at _ rfl _ _ 58 rfl w.heap.size 61 i0 (.agg #[.int .i64 0,.int .i64 0,.int .i64 0,.int .i64 0,.int .i64 0,.int .i64 0,.int .i64 0]) 7 56 Tryz.underlying58 ei ez es eb rfl (by decide) _ 0 [] rfl hown0 ⟨g,0,none⟩ n cap (partsL xs) rfl hlen.out hcells.out h1.out ?c3 ?c4 ?c5 ?_))
   case c3=>unfold maxLen;omega
   case c4=>omega
   case c5=>simp
   · intro v' w1 hown1 hgrow _ hat
     (try simp only[Nat.zero_add,List.nil_append] at hown1)
     have hB:Below w.heap.size w w1:=((Below.refl _ _).alloc (Nat.le_refl _) _).grown hgrow (by simp) (fun k hk=>by simp[Value.ownBlock] at hk;omega);have HO:=qq hown1;obtain⟨a',cap',rfl⟩:=row_slice hown1;clear hown1 hgrow hat hcells h1 hlen;go_wp2;go_ret;exact⟨_,rfl,HO.out,hB⟩
theorem parts_of (L:SLoc) (S:Sto) (w:World) (h:StoreAt L S w) (hl:S.parts.length≤8):Calls Tryz.prog 26 #[.pointer (some ⟨L.sb,0,none⟩)] w fun e w'=>∃v',e=.returned v'∧w'.ownsRow w.heap.size 61 7 v' S.parts.length (partsL S.parts)∧Below w.heap.size w w':=by
 have c3:w.cell? ⟨L.sb,3,none⟩=some L.pv:=h.blk.cell 3;have HC:=qq (clonePart_of L.pv S.parts w h.parts (by omega));obtain⟨a,cap,hv,_⟩:=part_row h.parts;rw[hv] at c3 HC;obtain⟨n,hn⟩:∃n,n=S.parts.length:=⟨_,rfl⟩
 rw[←hn] at c3 HC⊢;clear h hv hl hn;go_enter Tryz.func26,Tryz.ntmps26;go_wp2_with fail;refine HC.out.mono ?_;rintro e w1 ⟨v',rfl,ho,hb⟩;have HO:=qq ho;obtain⟨a',cap',rfl⟩:=row_slice ho;clear ho;go_wp2_with fail;go_ret;exact⟨_,rfl,HO.out,hb⟩
open Go.RowKit Go.Shelf
section
variable {P:Program} {ops:Array Oper} {Q:Exit→Act→World→Prop} {md:Region.Mode} {S:World→Prop}
def lastOp (md:Region.Mode) (ops:Array Oper) (j:Nat):Bool:=match ops[j]? with
 | none=>false
 | some oj=>(List.range ops.size).all fun k=>k==j || oj.after.any (fun e=>Region.binds md e && e.on==k)
def wpAnyM (P:Program) (md:Region.Mode) (ops:Array Oper) (Q:Exit→Act→World→Prop) (S:World→Prop):Nat→Array Bool→Act→World→Prop
 | 0,listed,a,w=>Region.ready md ops listed=[]∧Q .normal a w
 | fuel+1,listed,a,w=>
  (Region.ready md ops listed=[]→Q .normal a w)∧
  ∀i∈Region.ready md ops listed,wpOp P ops Q i (fun a' w'=>(lastOp md ops i=true∨S w')∧wpAnyM P md ops Q S fuel (listed.setIfInBounds i true) a' w') a w
theorem wpAny_of_M:∀(fuel:Nat) (listed:Array Bool) (a:Act) (w:World),wpAnyM P md ops Q S fuel listed a w→wpAny P md ops Q fuel listed a w
 | 0,_,_,_,h=>h
 | fuel+1,_,_,_,h=>⟨h.1,fun i hi=>wpOp_mono (fun a' w' h'=>wpAny_of_M fuel _ a' w' h'.2) (h.2 i hi)⟩
theorem not_last {i j:Nat} {listed:Array Bool} (hi:i∈Region.ready md ops listed) (hj:j∈Region.ready md ops listed) (hne:j≠i):lastOp md ops j=false:=by
 obtain⟨hiun,oi,hoi,_⟩:=mem_ready.1 hi;obtain⟨_,oj,hoj,hall⟩:=mem_ready.1 hj;unfold lastOp;rw[hoj];dsimp only;rw[List.all_eq_false];refine⟨i,List.mem_range.2 (Array.getElem?_eq_some_iff.1 hoi).1,?_⟩;have h1:(i==j)=false:=by simpa using(Ne.symm hne)
 rw[h1,Bool.false_or];intro hx;obtain⟨e,he,hb⟩:=Array.any_eq_true'.1 hx;simp only[Bool.and_eq_true,beq_iff_eq] at hb;have h2:=hall e he hb.1;rw[hb.2] at h2;rcases Nat.lt_or_ge i listed.size with h' | h'
 · simp[h'] at hiun h2;rw[hiun] at h2;cases h2
 · simp[Array.getElem?_eq_none h'] at h2
theorem wpAnyM_first {i : Nat} {oi : Oper} {v : Value} (hi : ops[i]? = some oi) (hsel : ∀ (j : Nat) (o : Oper) cs b, ops[j]? = some o → o.op ≠ .select cs b)
    (hQ:∀c a w,Q (.panic c) (a.put oi.dst v) w→Q (.panic c) a w):
    ∀(fuel:Nat) (listed:Array Bool) (a:Act) (w:World),
     (∀j oj,ops[j]? =some oj→j≠i→listed.getD j true=false→(∀e∈oj.after,Region.binds md e=true→e.on≠i)→oi.apart ops oj=true)→
     i∈Region.ready md ops listed→YieldsIf P ops S oi v a→S w→
     wpAnyM P md ops Q S fuel (listed.setIfInBounds i true) (a.put oi.dst v) w→wpAnyM P md ops Q S (fuel+1) listed a w:=by
 intro fuel
 induction fuel with
 | zero=>
  intro listed a w _ hr hy hS H;refine⟨fun h=>(by rw[h] at hr;cases hr),fun j hj=> ?_⟩;by_cases hji:j=i
  · subst hji;exact hy.wpOp hi hS ⟨.inr hS,H⟩
  · have:=ready_mono hj hji;rw[H.1] at this
    cases this
 | succ fuel ih=>
  intro listed a w hfree hr hy hS H;refine⟨fun h=>(by rw[h] at hr;cases hr),fun j hj=> ?_⟩;by_cases hji:j=i
  · subst hji;exact hy.wpOp hi hS ⟨.inr hS,H⟩
  · have hl:=not_last hr hj hji;have h1:=wpOp_mono (K':=fun a' w'=>S w'∧wpAnyM P md ops Q S fuel ((listed.setIfInBounds i true).setIfInBounds j true) a' w') (fun a' w' h'=>⟨h'.1.resolve_left (by rw[hl];simp),h'.2⟩) (H.2 j (ready_mono hj hji));obtain⟨hjun,oj,hoj,hall⟩:=mem_ready.1 hj;have hnot:∀e∈oj.after,Region.binds md e=true→e.on≠i:=fun e he hb heq=>by
     have h1:=hall e he hb;have h0:=(mem_ready.1 hr).1;rw[heq] at h1;rcases Nat.lt_or_ge i listed.size with h' | h'
     · simp[h'] at h0 h1;rw[h0] at h1;cases h1
     · simp[Array.getElem?_eq_none h'] at h1
    have h2:=wpOp_putIf hoj (hfree j oj hoj hji hjun hnot) (fun cs b=>hsel i oi cs b hi) (fun cs b=>hsel j oj cs b hoj) hQ hy h1;refine wpOp_mono (fun a' w' h3=>⟨.inr h3.2.1,ih (listed.setIfInBounds j true) a' w' (fun k ok hk hki hun hno=>hfree k ok hk hki ?_ hno) (ready_mono hr (Ne.symm hji)) h3.1 h3.2.1 ?_⟩) h2
    · by_cases hjk:j=k
      · subst hjk;exact hjun
      · rw[getD_set_ne true hjk] at hun;exact hun
    · rw[Array.setIfInBounds_comm _ _ hji];exact h3.2.2
theorem wpAnyM_narrow {S' : World → Prop} (hS : ∀ w, S' w → S w) :
    ∀(fuel:Nat) (listed:Array Bool) (a:Act) (w:World),wpAnyM P md ops Q S' fuel listed a w→wpAnyM P md ops Q S fuel listed a w
 | 0,_,_,_,h=>h
 | fuel+1,_,_,_,h=>⟨h.1,fun i hi=>wpOp_mono (fun a' w' h'=>⟨h'.1.imp id (hS _),wpAnyM_narrow hS fuel _ a' w' h'.2⟩) (h.2 i hi)⟩
theorem reg_start {id : Nat} {a : Act} {w : World} (F : World → Prop) (hm : P.follows .mixedOrders = true) (hF : F w.drew)
    (h:∀w1,F w1→wpAnyM P .any ops Q F ops.size (Array.replicate ops.size false) a w1):(Code.region id ops true).wp P Q a w:=
 wp_region_any hm (wpAny_of_M _ _ _ _ (h _ hF))
theorem takeM {fuel : Nat} {listed : Array Bool} {a : Act} {w : World} {oi : Oper} {d : Option Tmp} {v : Value}
    (i:Nat) (hi:ops[i]? =some oi) (hd:oi.dst=d) (hS:S w) (hy:∀w,S w→(execOp a.eval oi).run P w=.ok (.value v) w) (h:wpAnyM P md ops Q S fuel (listed.setIfInBounds i true) (a.put d v) w)
    (hs:Region.noSelect ops=true:=by kernel_rfl) (hf:Region.free md ops listed i=true:=by kernel_rfl) (hr:(Region.ready md ops listed).contains i=true:=by kernel_rfl)
    (hQ:∀c a w,Q (.panic c) (a.put oi.dst v) w→Q (.panic c) a w:=by exact fun _ _ _ h=>h) (hw:Region.wanted oi (yielded ops a.tmps)=true:=by rfl):wpAnyM P md ops Q S (fuel+1) listed a w:=by
 subst hd;exact wpAnyM_first hi (Region.noSelect_spec hs) hQ fuel listed a w (Region.free_spec hi hf) (by simpa using hr) (.inl ⟨hw,hy⟩) hS h
theorem skipM {fuel : Nat} {listed : Array Bool} {a : Act} {w : World} {oi : Oper} {d : Option Tmp}
    (i:Nat) (hi:ops[i]? =some oi) (hd:oi.dst=d) (hS:S w) (h:wpAnyM P md ops Q S fuel (listed.setIfInBounds i true) (a.put d undef) w)
    (hs:Region.noSelect ops=true:=by kernel_rfl) (hf:Region.free md ops listed i=true:=by kernel_rfl) (hr:(Region.ready md ops listed).contains i=true:=by kernel_rfl)
    (hQ:∀c a w,Q (.panic c) (a.put oi.dst undef) w→Q (.panic c) a w:=by exact fun _ _ _ h=>h) (hw:Region.wanted oi (yielded ops a.tmps)=false:=by rfl):wpAnyM P md ops Q S (fuel+1) listed a w:=by
 subst hd;exact wpAnyM_first hi (Region.noSelect_spec hs) hQ fuel listed a w (Region.free_spec hi hf) (by simpa using hr) (.inr ⟨hw,rfl⟩) hS h
theorem doneM {listed:Array Bool} {a:Act} {w:World} (hr:Region.ready md ops listed=[]) (h:Q .normal a w):∀fuel,wpAnyM P md ops Q S fuel listed a w
 | 0=>⟨hr,h⟩
 | _+1=>⟨fun _=>h,by rw[hr];simp⟩
theorem allM {rs : List Nat} {fuel : Nat} {listed : Array Bool} {a : Act} {w : World} (hr : Region.ready md ops listed = rs) (hne : rs ≠ [])
    (h:∀i∈rs,wpOp P ops Q i (fun a' w'=>(lastOp md ops i=true∨S w')∧wpAnyM P md ops Q S fuel (listed.setIfInBounds i true) a' w') a w):wpAnyM P md ops Q S (fuel+1) listed a w:=
 ⟨fun h0=>absurd (hr▸h0) hne,hr▸h⟩
def Nxt (P:Program) (md:Region.Mode) (ops:Array Oper) (Q:Exit→Act→World→Prop) (S:World→Prop) (fuel:Nat) (listed:Array Bool) (i:Nat) (a:Act) (w:World):Prop:=
 ∃F:World→Prop,(∀w,F w→S w)∧F w∧(F w→wpAnyM P md ops Q F fuel (listed.setIfInBounds i true) a w)
theorem Nxt.go {fuel:Nat} {listed:Array Bool} {i:Nat} {a:Act} {w:World} (h:Nxt P md ops Q S fuel listed i a w):(lastOp md ops i=true∨S w)∧wpAnyM P md ops Q S fuel (listed.setIfInBounds i true) a w:=by
 obtain⟨F,h1,h2,h3⟩:=h;exact⟨.inr (h1 _ h2),wpAnyM_narrow h1 _ _ _ _ (h3 h2)⟩
theorem one_M {fuel : Nat} {listed : Array Bool} {a : Act} {w : World} (i : Nat) (hr : Region.ready md ops listed = [i])
    (h:wpOp P ops Q i (Nxt P md ops Q S fuel listed i) a w):wpAnyM P md ops Q S (fuel+1) listed a w:=
 allM hr (by simp) (fun k hk=>by
   obtain rfl:k=i:=by simpa using hk
   exact wpOp_mono (fun _ _ h=>h.go) h)
theorem ret_S {fuel : Nat} {listed : Array Bool} {i : Nat} {a : Act} {w : World} {d : Option Tmp} {v0 : Value} (hS : S w)
    (h:S w→wpAnyM P md ops Q S fuel (listed.setIfInBounds i true) (a.put d v0) w):∃v,Ending.returned v0=.returned v∧Nxt P md ops Q S fuel listed i (a.put d v) w:=
 ⟨v0,rfl,S,fun _ h=>h,hS,h⟩
end
theorem row_be {w w':World} {B:Nat} {e:TypeId} {size:Nat} {v:Value} {n:Nat} {xs:List Value} (h:w.ownsRow B e size v n xs) (hb:Below w.heap.size w w'):w'.ownsRow B e size v n xs:=row_heap h (fun k hk=>hb.block k (h.lt k hk).2)
theorem row_al {w:World} {B:Nat} {e:TypeId} {size:Nat} {v:Value} {n:Nat} {xs:List Value} (h:w.ownsRow B e size v n xs) (o:Obj):(w.alloc o).ownsRow B e size v n xs:=row_be h ((Below.refl _ _).alloc (Nat.le_refl _) o)
theorem row_dr {w:World} {B:Nat} {e:TypeId} {size:Nat} {v:Value} {n:Nat} {xs:List Value} (h:w.ownsRow B e size v n xs):w.drew.ownsRow B e size v n xs:=row_be h (Below.refl _ _).drew
theorem row_st {w:World} {B:Nat} {e:TypeId} {size:Nat} {v:Value} {n:Nat} {xs:List Value} (h:w.ownsRow B e size v n xs) {p:Addr} (hp:p.block<B) (u:Value):(w.setCell p u).ownsRow B e size v n xs:=
 row_heap h (fun k hk=>Below.heap_setCell _ _ _ _ (by have:=(h.lt k hk).1;omega))
theorem bel_alloc {w w':World} (h:Below w.heap.size w w') (o:Obj):Below w.heap.size w (w'.alloc o):=h.alloc h.size o
theorem bel_drew {w w':World} (h:Below w.heap.size w w'):Below w.heap.size w w'.drew:=h.drew
theorem bel_set {w w':World} (h:Below w.heap.size w w') {p:Addr} (hp:w.heap.size≤p.block) (v:Value):Below w.heap.size w (w'.setCell p v):=h.setCell hp v
section
variable {P:Program} {ops:Array Oper} {Q:Exit→Act→World→Prop} {md:Region.Mode} {S:World→Prop}
theorem reg_start2 {id : Nat} {a : Act} {w : World} (F E : World → Prop) (hm : P.follows .mixedOrders = true) (hF : F w.drew) (hE : E w.drew)
    (h:∀w1,F w1→E w1→wpAnyM P .any ops Q F ops.size (Array.replicate ops.size false) a w1):(Code.region id ops true).wp P Q a w:=
 wp_region_any hm (wpAny_of_M _ _ _ _ (h _ hF hE))
end
theorem hp_st {w:World} {b:Nat} {o:Obj} (h:w.heap[b]? =some o) {p:Addr} (hp:p.block≠b) (v:Value):(w.setCell p v).heap[b]? =some o:=(Below.heap_setCell _ _ _ _ (fun e=>hp e.symm)).trans h
theorem bst {w w':World} (h:Below w.heap.size w w') (b o:Nat) (v:Value) (hb:w.heap.size≤b:=by omega):Below w.heap.size w (w'.setCell ⟨b,o,none⟩ v):=bel_set h (p:=⟨b,o,none⟩) hb v
theorem hst {w:World} {k:Nat} {q:Obj} (h:w.heap[k]? =some q) (b o:Nat) (v:Value) (hb:b≠k:=by omega):(w.setCell ⟨b,o,none⟩ v).heap[k]? =some q:=hp_st h (p:=⟨b,o,none⟩) hb v
theorem sst {w:World} {b:Nat} {C:Array Value} (h:Blk w b C) (i:Nat) (v:Value) (hi:i<C.size:=by simp):Blk (w.setCell ⟨b,i,none⟩ v) b (C.set i v hi):=h.set' i hi v
theorem infoActI:(Tryz.prog.info? 51).map (fun i=>(i.zero,i.size,i.bytes))=some (some (.agg #[.int .i64 0,.int .i64 0,.int .i64 0,.int .i64 0,.float .f64 0,.int .i64 0,.int .i64 0,.slice none 0 0]),8,80):=by kernel_rfl
structure ActsIn (B:Nat) (v:Value) (al:List SAct) (vs:List Value) (w:World):Prop where
 len:vs.length=al.length
 row:w.ownsRow B 51 8 v al.length (actsL al vs)
 regs:∀(i:Nat) (a:SAct) (x:Value),al[i]? =some a→vs[i]? =some x→w.ownsRow B 55 6 x a.regs.length (regsL a.regs)
 apart:∀x∈vs,∀k,x.ownBlock=some k→v.ownBlock≠some k
theorem ActsIn.below {B:Nat} {v:Value} {al:List SAct} {vs:List Value} {w w':World} (h:ActsIn B v al vs w) (hb:Below w.heap.size w w'):ActsIn B v al vs w':=
 ⟨h.len,row_heap h.row (fun k hk=>hb.block k (h.row.lt k hk).2),fun i a x h1 h2=>row_heap (h.regs i a x h1 h2) (fun k hk=>hb.block k ((h.regs i a x h1 h2).lt k hk).2),h.apart⟩
theorem ActsIn.nil (B:Nat) (w:World):ActsIn B (.slice none 0 0) [] [] w:=⟨rfl,World.ownsRow_nil _ _ _ _,fun i a x h=>by simp at h,fun x h=>by cases h⟩
theorem ActsIn.snoc {B : Nat} {v v2 : Value} {al : List SAct} {vs : List Value} {w w2 : World} {a : SAct} {x : Value} (h : ActsIn B v al vs w) (hx : w.ownsRow B 55 6 x a.regs.length (regsL a.regs)) (hax : ∀ k, x.ownBlock = some k → v.ownBlock ≠ some k)
    (hr:w2.ownsRow B 51 8 v2 (al.length+1) (actsL al vs ++actL a x)) (hg:w.grownBy w2 v.ownBlock) (hat:v2.ownBlock=v.ownBlock∨v2.ownBlock=some w.heap.size):ActsIn B v2 (al ++ [a]) (vs ++ [x]) w2:=by
 have keep:∀(u:Value) (r:List SReg),w.ownsRow B 55 6 u r.length (regsL r)→(∀k,u.ownBlock=some k→v.ownBlock≠some k)→w2.ownsRow B 55 6 u r.length (regsL r):=fun u r h1 h2=>
  row_heap h1 (fun k hk=>hg.block k (h1.lt k hk).2 (fun e=>h2 k hk e.symm))
 have apart2:∀(u:Value) (r:List SReg),w.ownsRow B 55 6 u r.length (regsL r)→(∀k,u.ownBlock=some k→v.ownBlock≠some k)→∀k,u.ownBlock=some k→v2.ownBlock≠some k:=fun u r h1 h2 k hk e=>by
  rcases hat with h3 | h3
  · exact h2 k hk (by rw[←h3];exact e)
  · have:=(h1.lt k hk).2;rw[h3] at e;injection e with e
    omega
 have hl:=h.len;refine⟨by simp[h.len],?_,fun i a' x' h1 h2=> ?_,fun u hu k hk=> ?_⟩
 · rw[List.length_append];unfold actsL at hr⊢;rw[List.zip_append h.len.symm,List.flatMap_append];simpa using hr
 · by_cases hi:i<al.length
   · rw[List.getElem?_append_left hi] at h1;rw[List.getElem?_append_left (by omega)] at h2;exact keep _ _ (h.regs i a' x' h1 h2) (h.apart x' (List.mem_of_getElem? h2))
   · rw[List.getElem?_append_right (by omega)] at h1;rw[List.getElem?_append_right (by omega),hl] at h2;have e0:i - al.length=0:=by
      rcases Nat.eq_zero_or_pos (i - al.length) with e | e
      · exact e
      · rw[List.getElem?_eq_none (by simp;omega)] at h1;cases h1
     rw[e0] at h1 h2;simp at h1 h2;subst h1 h2;exact keep _ _ hx hax
 · rcases List.mem_append.1 hu with hu | hu
   · obtain⟨i,hi,rfl⟩:=List.getElem_of_mem hu;exact apart2 _ _ (h.regs i al[i] vs[i] (List.getElem?_eq_getElem (by omega)) (List.getElem?_eq_getElem hi)) (h.apart _ hu) k hk
   · obtain rfl:=List.mem_singleton.1 hu;exact apart2 _ _ hx hax k hk
theorem actL_ones (a:SAct) (v:Value) (hv:v.oneCell'=true):∀u∈actL a v,u.oneCell'=true:=by
 intro u hu;simp only[actL,List.mem_cons,List.not_mem_nil,or_false] at hu;rcases hu with rfl | rfl | rfl | rfl | rfl | rfl | rfl | rfl<;>first | rfl | exact hv
theorem acts_of (L:SLoc) (S:Sto) (w:World) (h:StoreAt L S w) (hG:StoGood S):Calls Tryz.prog 24 #[.pointer (some ⟨L.sb,0,none⟩)] w fun e w'=>∃v vs,e=.returned v∧ActsIn w.heap.size v S.acts vs w'∧Below w.heap.size w w':=by
 obtain⟨i0,ei,ez,es,eb⟩:=info_parts infoActI;obtain⟨aa,ac,hav,hal,har⟩:=ptr_row h.acts;have h8:=hG.acts;have HACT:=qq (fun W (hW:StoreAt L S W)=>hW.act);have HLEN:=qq (fun a (ha:a∈S.acts)=>(hG.act a ha).len);have H:=qq h;have hlen:=h.len;obtain⟨n,hn⟩:∃n,n=S.acts.length:=⟨_,rfl⟩
 rw[←hn] at har h8;have c2:∀W,StoreAt L S W→W.cell? ⟨L.sb,2,none⟩=some (.slice aa n ac):=fun W hW=>by have:=hW.blk.cell 2;rw[hav] at this;rw[hn];exact this
 have HC2:=qq c2;have HAR:=qq har;have HN:=qq hn;have HHL:=qq hlen;have hsb:=h.blk.lt;have q2:=c2 w h;clear h hG har hal hav c2 hn hlen;go_enter Tryz.func24,Tryz.ntmps24;go_wp2_with fail;go_loopw [3,11] (fun v i wr=>∃k:Nat,k≤n∧i=.int .i64 (k:Nat)∧Hid (∃vs,ActsIn w.heap.size v (S.acts.take k) vs wr)∧Below w.heap.size w wr) (fun _ i _=>n - (intOf i).toNat)
 case atStart=>exact⟨0,by omega,by first | rfl | go_num,qq ⟨[],by rw[List.take_zero];exact ActsIn.nil _ _⟩,by go_grown⟩
 case round=>
  obtain⟨k,hk,rfl,⟨vs,HV⟩,hB⟩:=hrel;have HVS:=qq HV;by_cases hlt:k<n
  · have hks:k<S.acts.length:=by rw[←HN.out];exact hlt
    obtain⟨g,rfl,hg,_,hpt⟩:=HAR.out (by omega);obtain⟨x,hx⟩:∃x,L.ab[k]? =some x:=⟨_,List.getElem?_eq_getElem (by rw[HHL.out];exact hks)⟩
    obtain⟨a,ha⟩:∃a,S.acts[k]? =some a:=⟨_,List.getElem?_eq_getElem hks⟩
    have HS:=qq (H.out.below hB);obtain⟨hbk,hrg⟩:=HACT.out _ HS.out k x a hx ha;have hp:=(hB.cell (p:=⟨g,k,none⟩) hg).trans (hpt k x hx);have HCP:=qq (copied_of a x.2 wr hrg (HLEN.out a (List.mem_of_getElem? ha)));have HA:=qq ha;have lk:=hbk.lt;have qk:=hbk.cell;have hki:(k:Int)<(n:Int):=by omega
    have hk0:(0:Int)≤(k:Int):=by omega
    have hgw:g<wr.heap.size:=Nat.lt_of_lt_of_le hg hB.size;have hl6:=HLEN.out a (List.mem_of_getElem? ha);have hlt8:(S.acts.take k).length=k:=by rw[List.length_take];omega
    obtain⟨av,cv,hv⟩:=row_slice HV.row;rw[hlt8] at hv;subst hv;obtain⟨xb,xv⟩:=x;obtain⟨an,aq,oc,dp,ex,pa,de,rs⟩:=a;dsimp only[actC] at*;clear hbk hrg hpt hx ha HV;go_wp2_with fail;refine HCP.out.mono ?_;rintro e w1 ⟨v',rfl,ho,hb1⟩;obtain⟨va,vc,rfl⟩:=row_slice ho;have HO:=qq (row_base ho hB.size);have HNB:=qq (fun j hj=>(ho.lt j hj).1);have HV1:=qq (HVS.out.below hb1)
    have B1:Below w.heap.size w w1:=below_then hB hb1;have hsz1:=hb1.size;clear hp qk lk ho hb1
    go_wp2_with (at_builtin;refine wpList_append_own_at _ rfl _ _ 45 rfl w.heap.size 51 i0 (.agg #[.int .i64 0,.int .i64 0,.int .i64 0,.int .i64 0,.float .f64 0,.int .i64 0,.int .i64 0,.slice none 0 0]) 8 80 Tryz.underlying45 ei ez es eb rfl (by decide) _ _ _ rfl (by have:=HV1.out.row;rw[hlt8] at this;exact row_heap this (fun k hk=>by rw[((Below.refl w1.heap.size w1).alloc (Nat.le_refl _) _).block k (this.lt k hk).2])) ⟨w1.heap.size,0,none⟩ 1 1 (actL ⟨an,aq,oc,dp,ex,pa,de,rs⟩ (.slice va rs.length vc)) (by rfl) rfl (lit_cells (Blk.fresh _ _ _ _ rfl)) (actL_ones _ _ rfl) ?d3 ?d4 ?d5 ?_)
    case d3=>unfold maxLen;omega
    case d4=>omega
    case d5=>have:=B1.size;simp;omega
    intro v2 w3 hown hgrow _ hat;have HW:=qq (show ∃vs2,ActsIn w.heap.size v2 (S.acts.take (k+1)) vs2 w3 from⟨vs ++ [.slice va rs.length vc],by
      have htk:S.acts.take (k+1)=S.acts.take k ++ [⟨an,aq,oc,dp,ex,pa,de,rs⟩]:=by
        obtain⟨hj,he⟩:=List.getElem?_eq_some_iff.1 HA.out;rw[List.take_succ_eq_append_getElem hj,he]
      rw[htk];refine ActsIn.snoc (w:=w1.alloc (.cells #[an,aq,oc,dp,.float .f64 ex,pa,de,.slice va rs.length vc] 51)) (HV1.out.below ((Below.refl w1.heap.size w1).alloc (Nat.le_refl _) _)) (row_heap HO.out (fun j hj=>((Below.refl w1.heap.size w1).alloc (Nat.le_refl _) _).block j (HO.out.lt j hj).2)) (fun j hj e=> ?_) (by rw[hlt8];exact hown) hgrow (by simpa using hat);have h1:=HNB.out j hj
      have h2:=(HVS.out.row.lt j e).2;omega⟩)
    have B3:Below w.heap.size w w3:=(B1.alloc B1.size _).grown hgrow (by have:=B1.size;simp;omega) (fun j hj=>by have:=(HVS.out.row.lt j hj).1;omega);clear hown hgrow hat;go_wp2_with fail
    all_goals (go_roundw<;>first | exact⟨k+1,by omega,by go_num,HW,B3⟩ | (simp[intOf];omega))
  · obtain rfl:k=n:=by omega
    have HF:Hid (ActsIn w.heap.size _ S.acts vs wr):=qq (by have:=HVS.out;rw[List.take_of_length_le (by rw[←HN.out];omega)] at this;exact this);obtain⟨av,cv,rfl⟩:=row_slice HF.out.row;go_wp2_with fail;go_ret;exact⟨_,vs,rfl,HF.out,hB⟩
theorem schild_some {S:Sto} {pa:Int} {i:Nat} (h:schild S pa=some i):∃a,S.acts[i]? =some a∧a∈S.acts:=by
 unfold schild at h;obtain⟨h1,_⟩:=List.findIdx?_eq_some_iff_getElem.1 h;exact⟨S.acts[i],List.getElem?_eq_getElem h1,List.getElem_mem h1⟩
def ChildOut (b:Bool) (w:World) (e:Ending) (w':World):Prop:=∃(an aq oc dp:Int) (ex:Nat) (pa de:Int) (va:Option Addr) (vn vc:Nat),e=.returned (.tuple #[.agg #[an,aq,oc,dp,.float .f64 ex,pa,de,.slice va vn vc],.bool b])∧Below w.heap.size w w'
theorem Child_out (L:SLoc) (S:Sto) (pt:Int) (w:World) (h:StoreAt L S w) (hG:StoGood S) (hp:¬(0≤pt∧pt<(S.parts.length:Int))):Calls Tryz.prog 27 #[.pointer (some ⟨L.sb,0,none⟩),.int .i64 pt] w (ChildOut false w):=by
 have H:=qq h;have HH:=qq (fun W hW=>has_of L S pt W hW);rw[decide_eq_false hp] at HH;clear h hG hp;go_enter Tryz.func27,Tryz.ntmps27;go_wp2_with fail;refine(HH.out _ (H.out.below (bel_alloc (Below.refl w.heap.size w) _))).mono ?_;rintro e w1 ⟨rfl,rfl⟩;go_wp2_with fail
 refine bodyPost_ret (v:=.tuple #[.agg #[.int .i64 0,.int .i64 0,.int .i64 0,.int .i64 0,.float .f64 0,.int .i64 0,.int .i64 0,.slice none 0 0],.bool false]) (by simp[results,Tryz.results27,go_sem]) rfl ?_;exact⟨0,0,0,0,0,0,0,none,0,0,rfl,(bel_alloc (Below.refl w.heap.size w) _)⟩
theorem Child_no (L:SLoc) (S:Sto) (pt:Int) (w:World) (h:StoreAt L S w) (hG:StoGood S) (hp:0≤pt∧pt<(S.parts.length:Int)) (hc:schild S (pt+1)=none):Calls Tryz.prog 27 #[.pointer (some ⟨L.sb,0,none⟩),.int .i64 pt] w (ChildOut false w):=by
 have H:=qq h;have HH:=qq (fun W hW=>has_of L S pt W hW);rw[decide_eq_true hp] at HH;have HC:=qq (fun W hW=>child_of L S (pt+1) W hW hG);rw[if_neg (by omega)] at HC;rw[hc] at HC;dsimp only[aptr,Option.bind] at HC;have h8:=hG.parts;have HGN:=qq (fun W=>got_no W);dsimp only[act0V] at HGN;clear h hG hc;go_enter Tryz.func27,Tryz.ntmps27;go_wp2_with fail
 refine(HH.out _ (H.out.below (bel_alloc (Below.refl w.heap.size w) _))).mono ?_;rintro e w1 ⟨rfl,rfl⟩;go_wp2_with fail;refine(HC.out _ (H.out.below (bel_alloc (Below.refl w.heap.size w) _))).mono ?_;rintro e w2 ⟨rfl,hb2⟩;have K1:=qq ((Blk.fresh _ _ _ (w.heap.size) (by simp)).below hb2);have HB:=qq (below_then (bel_alloc (Below.refl w.heap.size w) _) hb2);have z2:=HB.out.size;clear hb2
 obtain⟨lK1,qK1,fK1⟩:=K1.out;go_wp2_with fail;clear qK1 fK1 lK1;refine(HGN.out _).mono ?_;rintro e w3 ⟨rfl,hb3⟩;have K1:=qq (K1.out.below hb3);have HB:=qq (below_then HB.out hb3);have z3:=HB.out.size;clear hb3;obtain⟨lK1,qK1,fK1⟩:=K1.out;go_wp2_with fail
 have hV0:=(sst (sst (sst (sst (sst (sst (sst (sst K1.out 0 (.int .i64 0)) 1 (.int .i64 0)) 2 (.int .i64 0)) 3 (.int .i64 0)) 4 (.float .f64 0)) 5 (.int .i64 0)) 6 (.int .i64 0)) 7 (.slice none 0 0))
 have hVq0:=hV0.cell;have hVf0:=hV0.free;refine bodyPost_ret (v:=.tuple #[.agg #[.int .i64 0,.int .i64 0,.int .i64 0,.int .i64 0,.float .f64 0,.int .i64 0,.int .i64 0,.slice none 0 0],.bool false]) (by simp[results,Tryz.results27,go_sem,hVq0,hVf0]) rfl ?_;clear qK1 fK1 lK1
 exact⟨0,0,0,0,0,0,0,none,0,0,rfl,(bst (bst (bst (bst (bst (bst (bst (bst HB.out w.heap.size 0 _) w.heap.size 1 _) w.heap.size 2 _) w.heap.size 3 _) w.heap.size 4 _) w.heap.size 5 _) w.heap.size 6 _) w.heap.size 7 _)⟩
theorem rsame09_self (cn cq co cd:Int) (cx:Nat) (w:World) (hx:F64 cx):Calls Tryz.prog 79 #[.agg #[cn,cq,co,cd,.float .f64 cx],.agg #[cn,cq,co,cd,.float .f64 cx]] w (Makes (.bool true) w):=by
 have HB1:=qq (fun W=>rbits_of cx hx W);obtain⟨p,hp⟩:∃p:Int,p=(fplain cx:Nat):=⟨_,rfl⟩
 rw[←hp] at HB1;clear hx hp;go_enter Tryz.func79,Tryz.ntmps79;go_wp2_with fail;refine reg_start (fun w'=>Blk w' _ _∧Blk w' _ _∧Below w.heap.size w w') (by kernel_rfl) ⟨((Blk.fresh _ _ _ (w.heap.size) (by simp)).alloc _).drew,(Blk.fresh _ _ _ (w.heap.size+1) (by simp)).drew,(bel_drew (bel_alloc (bel_alloc (Below.refl w.heap.size w) _) _))⟩ ?_;rintro w1 hHeld;obtain⟨K1',K2',HB'⟩:=id hHeld
 have K1:=qq K1';have K2:=qq K2';have HB:=qq HB';clear K1' K2' HB';have z1:=HB.out.size;refine takeM (d:=some 5) 0 rfl rfl hHeld (fun w' _=>by go_simp;(try rfl)) ?_;simp only[puts];refine takeM (d:=some 6) 1 rfl rfl hHeld (fun w' _=>by go_simp;(try rfl)) ?_;simp only[puts];refine takeM (d:=some 7) 2 rfl rfl hHeld (fun w' hS'=>by have qA:=hS'.1.cell;clear hS';go_simp;(try rfl)) ?_;simp only[puts]
 refine takeM (d:=some 8) 3 rfl rfl hHeld (fun w' _=>by go_simp;(try rfl)) ?_;simp only[puts];refine takeM (d:=some 9) 4 rfl rfl hHeld (fun w' _=>by go_simp;(try rfl)) ?_;simp only[puts];refine takeM (d:=some 10) 5 rfl rfl hHeld (fun w' hS'=>by have qA:=hS'.2.1.cell;clear hS';go_simp;(try rfl)) ?_;simp only[puts];refine takeM (d:=some 11) 6 rfl rfl hHeld (fun w' _=>by go_simp;(try rfl)) ?_
 simp only[puts];refine takeM (d:=some 12) 7 rfl rfl hHeld (fun w' _=>by go_simp;(try rfl)) ?_;simp only[puts];refine takeM (d:=some 13) 8 rfl rfl hHeld (fun w' _=>by go_simp;(try rfl)) ?_;simp only[puts];refine takeM (d:=some 14) 9 rfl rfl hHeld (fun w' _=>by go_simp;(try rfl)) ?_;simp only[puts]
 refine takeM (d:=some 15) 10 rfl rfl hHeld (fun w' hS'=>by have qA:=hS'.1.cell;clear hS';go_simp;(try rfl)) ?_;simp only[puts];refine takeM (d:=some 16) 11 rfl rfl hHeld (fun w' _=>by go_simp;(try rfl)) ?_;simp only[puts];refine takeM (d:=some 17) 12 rfl rfl hHeld (fun w' _=>by go_simp;(try rfl)) ?_;simp only[puts]
 refine takeM (d:=some 18) 13 rfl rfl hHeld (fun w' hS'=>by have qA:=hS'.2.1.cell;clear hS';go_simp;(try rfl)) ?_;simp only[puts];refine takeM (d:=some 19) 14 rfl rfl hHeld (fun w' _=>by go_simp;(try rfl)) ?_;simp only[puts];refine takeM (d:=some 20) 15 rfl rfl hHeld (fun w' _=>by go_simp;(try rfl)) ?_;simp only[puts];refine takeM (d:=some 21) 16 rfl rfl hHeld (fun w' _=>by go_simp;(try rfl)) ?_
 simp only[puts];refine takeM (d:=some 22) 17 rfl rfl hHeld (fun w' _=>by go_simp;(try rfl)) ?_;simp only[puts];refine takeM (d:=some 23) 18 rfl rfl hHeld (fun w' hS'=>by have qA:=hS'.1.cell;clear hS';go_simp;(try rfl)) ?_;simp only[puts];refine takeM (d:=some 24) 19 rfl rfl hHeld (fun w' _=>by go_simp;(try rfl)) ?_;simp only[puts]
 refine takeM (d:=some 25) 20 rfl rfl hHeld (fun w' hS'=>by have qA:=hS'.2.1.cell;clear hS';go_simp;(try rfl)) ?_;simp only[puts];refine takeM (d:=some 26) 21 rfl rfl hHeld (fun w' _=>by go_simp;(try rfl)) ?_;simp only[puts];refine takeM (d:=some 27) 22 rfl rfl hHeld (fun w' _=>by go_simp;(try rfl)) ?_;simp only[puts];refine takeM (d:=some 28) 23 rfl rfl hHeld (fun w' _=>by go_simp;(try rfl)) ?_
 simp only[puts];refine takeM (d:=some 29) 24 rfl rfl hHeld (fun w' _=>by go_simp;(try rfl)) ?_;simp only[puts];refine takeM (d:=some 30) 25 rfl rfl hHeld (fun w' hS'=>by have qA:=hS'.1.cell;clear hS';go_simp;(try rfl)) ?_;simp only[puts];refine takeM (d:=some 31) 26 rfl rfl hHeld (fun w' _=>by go_simp;(try rfl)) ?_;simp only[puts]
 refine takeM (d:=some 32) 27 rfl rfl hHeld (fun w' hS'=>by have qA:=hS'.2.1.cell;clear hS';go_simp;(try rfl)) ?_;simp only[puts];refine takeM (d:=some 33) 28 rfl rfl hHeld (fun w' _=>by go_simp;(try rfl)) ?_;simp only[puts];refine takeM (d:=some 34) 29 rfl rfl hHeld (fun w' _=>by go_simp;(try rfl)) ?_;simp only[puts];refine takeM (d:=some 35) 30 rfl rfl hHeld (fun w' _=>by go_simp;(try rfl)) ?_
 simp only[puts];refine takeM (d:=some 36) 31 rfl rfl hHeld (fun w' _=>by go_simp;(try rfl)) ?_;simp only[puts];refine takeM (d:=some 37) 32 rfl rfl hHeld (fun w' hS'=>by have qA:=hS'.1.cell;clear hS';go_simp;(try rfl)) ?_;simp only[puts];refine takeM (d:=some 39) 34 rfl rfl hHeld (fun w' _=>by go_simp;(try rfl)) ?_;simp only[puts]
 refine takeM (d:=some 40) 35 rfl rfl hHeld (fun w' hS'=>by have qA:=hS'.2.1.cell;clear hS';go_simp;(try rfl)) ?_;simp only[puts];refine one_M 33 (by kernel_rfl) ?_;refine wpOp_call (d:=some 38) 33 120 _ _ [.float .f64 cx] rfl rfl rfl (enters_of Tryz.func120 (by kernel_rfl) rfl) (by rfl) (by rfl) ?_;refine(HB1.out _).mono ?_;rintro e w2 ⟨rfl,rfl⟩;refine ret_S hHeld (fun hHeld=> ?_);simp only[puts]
 refine one_M 36 (by kernel_rfl) ?_;refine wpOp_call (d:=some 41) 36 120 _ _ [.float .f64 cx] rfl rfl rfl (enters_of Tryz.func120 (by kernel_rfl) rfl) (by rfl) (by rfl) ?_;refine(HB1.out _).mono ?_;rintro e w3 ⟨rfl,rfl⟩;refine ret_S hHeld (fun hHeld=> ?_);simp only[puts];refine takeM (d:=some 42) 37 rfl rfl hHeld (fun w' _=>by go_simp;(try rfl)) ?_;simp only[puts]
 refine takeM (d:=some 43) 38 rfl rfl hHeld (fun w' _=>by go_simp;(try rfl)) ?_;simp only[puts];refine takeM (d:=some 4) 39 rfl rfl hHeld (fun w' _=>by go_simp;(try rfl)) ?_;simp only[puts];refine doneM (by kernel_rfl) ?_ _;clear hHeld;obtain⟨lK1,qK1,fK1⟩:=K1.out;obtain⟨lK2,qK2,fK2⟩:=K2.out;go_wp2_with fail;refine bodyPost_ret (v:=.bool true) (by simp[results,Tryz.results79,go_sem]) rfl ?_
 clear qK1 fK1 lK1 qK2 fK2 lK2;exact⟨rfl,HB.out⟩
theorem infoRReg15:(Tryz.prog.info? 199).map (fun i=>(i.zero,i.size,i.bytes))=some (some (.agg #[.int .i64 0,.int .i64 0,.int .i64 0,.int .i64 0,.int .i64 0,.int .i64 0]),6,48):=by kernel_rfl
theorem part15_of (an aq rg p d s h:Int) (w:World):Calls Tryz.prog 98 #[.agg #[an,aq,rg,p,d,s,h]] w (Makes (.agg #[an,aq,rg,p,d,s,h]) w):=by
 go_enter Tryz.func98,Tryz.ntmps98;go_wp2_with fail;refine bodyPost_ret (v:=.agg #[an,aq,rg,p,d,s,h]) (by simp[results,Tryz.results98,go_sem]) rfl ?_;exact⟨rfl,(bel_alloc (bel_alloc (Below.refl w.heap.size w) _) _)⟩
theorem act15_of (an aq oc dp : Int) (ex : Nat) (pa de : Int) (va : Option Addr) (vc : Nat) (rs : List SReg) (B : Nat) (w : World) (h : w.ownsRow B 55 6 (.slice va rs.length vc) rs.length (regsL rs)) (hl : rs.length ≤ 1000) :
    Calls Tryz.prog 97 #[.agg #[an,aq,oc,dp,.float .f64 ex,pa,de,.slice va rs.length vc]] w fun e w'=>∃c cc,e=.returned (.agg #[an,aq,oc,dp,.float .f64 ex,pa,de,.slice c rs.length cc])∧w'.ownsRow w.heap.size 199 6 (.slice c rs.length cc) rs.length (regsL rs)∧Below w.heap.size w w':=by
 obtain⟨i0,ei,ez,es,eb⟩:=info_parts infoRReg15;have HR:Hid (∀k,k<rs.length→∃r,rs[k]? =some r∧∃b,va=some ⟨b,0,none⟩∧b<w.heap.size∧RegC w b (k*6) r):=qq (fun k hk=>by
   obtain⟨a',cap',hv,_,hr⟩:=reg_row h;obtain⟨g,ha,hg,_,hc⟩:=hr (by omega);simp only[Value.slice.injEq,true_and] at hv;exact⟨rs[k],List.getElem?_eq_getElem hk,g,by rw[hv.1,ha],hg,hc k _ (List.getElem?_eq_getElem hk)⟩)
 clear h;obtain⟨n,hn⟩:∃n,n=rs.length:=⟨_,rfl⟩
 rw[←hn] at HR hl⊢;have HN:=qq hn;clear hn;obtain⟨W1,hW1⟩:∃W1,W1=((w.alloc (.cells #[an,aq,oc,dp,.float .f64 ex,pa,de,.slice va n vc] 51)).alloc (.cells #[.int .i64 0,.int .i64 0,.int .i64 0,.int .i64 0,.float .f64 0,.int .i64 0,.int .i64 0,.slice none 0 0] 116)):=⟨_,rfl⟩
 have HST:Hid (Below (w.heap.size+2) W1 (((w.alloc (.cells #[an,aq,oc,dp,.float .f64 ex,pa,de,.slice va n vc] 51)).alloc (.cells #[.int .i64 0,.int .i64 0,.int .i64 0,.int .i64 0,.float .f64 0,.int .i64 0,.int .i64 0,.slice none 0 0] 116)).alloc (.cells #[an,aq,oc,dp,.float .f64 ex,pa,de,.slice none 0 0] 116))):=qq (by rw[hW1];exact(Below.refl _ _).alloc (by simp) _)
 have HWB:Hid (Below w.heap.size w W1):=qq (by rw[hW1];go_grown)
 have HRB0:Hid (Blk W1 (w.heap.size+1) #[.int .i64 0,.int .i64 0,.int .i64 0,.int .i64 0,.float .f64 0,.int .i64 0,.int .i64 0,.slice none 0 0]):=qq (by rw[hW1];exact Blk.fresh (w.alloc (.cells #[an,aq,oc,dp,.float .f64 ex,pa,de,.slice va n vc] 51)) #[.int .i64 0,.int .i64 0,.int .i64 0,.int .i64 0,.float .f64 0,.int .i64 0,.int .i64 0,.slice none 0 0] 116 (w.heap.size+1) (by simp))
 have HZ:Hid (W1.heap.size=w.heap.size+2):=qq (by rw[hW1];simp);clear hW1;go_enter Tryz.func97,Tryz.ntmps97;go_wp2_with fail;go_loopw [16] (fun i wr=>∃(k:Nat) (v:Value),k≤n∧i=.int .i64 (k:Nat)∧Hid (wr.ownsRow (w.heap.size+3) 199 6 v k (regsL (rs.take k)))∧Hid (Blk wr (w.heap.size+1+1) #[an,aq,oc,dp,.float .f64 ex,pa,de,v])∧Hid (Below (w.heap.size+2) W1 wr)) (fun i _=>n - (intOf i).toNat)
 case atStart=>
  exact⟨0,.slice none 0 0,by omega,by first | rfl | go_num,qq (World.ownsRow_nil _ _ _ _),qq (Blk.fresh _ _ _ _ (by simp)),HST⟩
 case round=>
  obtain⟨k,v,hk,rfl,HO,HB,HW⟩:=hrel;obtain⟨av,cv,rfl⟩:=row_slice HO.out;have q:=HB.out.cell;by_cases hlt:k<n
  · obtain⟨r,hf,b,rfl,hbl,hat⟩:=HR.out k hlt;have BR:Below w.heap.size w wr:=HWB.out.trans (HW.out.mono (by omega));obtain⟨p0,p1,p2,p3,p4,p5⟩:=hat.below BR hbl;have hsz:=HB.out.lt;have HF:=qq hf;obtain⟨rn,rp,⟨sp,sd,ss,sh⟩⟩:=r;have qf:=HB.out.free;dsimp only at p0 p1 p2 p3 p4 p5;clear hat hf hbl BR
    go_wp2_with (at_builtin;refine wpList_append_own_at _ rfl _ _ 114 rfl (w.heap.size+3) 199 i0 (.agg #[.int .i64 0,.int .i64 0,.int .i64 0,.int .i64 0,.int .i64 0,.int .i64 0]) 6 48 Tryz.underlying114 ei ez es eb rfl (by decide) _ _ _ rfl ((HO.out.alloc _).alloc _) ⟨wr.heap.size+1,0,none⟩ 1 1 [.int .i64 rn,.int .i64 rp,.int .i64 sp,.int .i64 sd,.int .i64 ss,.int .i64 sh] (by rfl) rfl (lit_cells (Blk.fresh _ _ _ _ (by simp))) (by simp[Value.oneCell']) ?d3 ?d4 ?d5 ?_)
    case d3=>unfold maxLen;omega
    case d4=>omega
    case d5=>simp;omega
    intro v2 w3 hown hgrow _ hat;have hne:v2.ownBlock≠some (w.heap.size+1+1):=fun e=>by have:=(hown.lt _ e).1;omega
    have hne0:(Value.slice av k cv).ownBlock≠some (w.heap.size+1+1):=fun e=>by have:=(HO.out.lt _ e).1;omega
    have kB:=((HB.out.alloc (.cells #[rn,rp,sp,sd,ss,sh] 55)).alloc (.cells #[rn,rp,sp,sd,ss,sh] 199)).same hgrow.size (hgrow.block _ ((HB.out.alloc _).alloc _).lt (fun e=>hne0 e.symm));have R2:=qq (kB.set' 7 (by simp) v2);have R1:Hid ((w3.setCell ⟨w.heap.size+1+1,7,none⟩ v2).ownsRow (w.heap.size+3) 199 6 v2 (k+1) (regsL (rs.take (k+1)))):=qq (by
      refine row_heap ?_ (fun j hj=>Below.heap_setCell _ _ _ _ (fun e=>hne (by rw[hj,e])));have htk:rs.take (k+1)=rs.take k ++ [⟨rn,rp,⟨sp,sd,ss,sh⟩⟩]:=by
        obtain⟨hj,he⟩:=List.getElem?_eq_some_iff.1 HF.out;rw[List.take_succ_eq_append_getElem hj,he]
      rw[htk];unfold regsL at hown⊢;rw[List.flatMap_append];simpa[regL] using hown)
    have R3:Hid (Below (w.heap.size+2) W1 (w3.setCell ⟨w.heap.size+1+1,7,none⟩ v2)):=qq ((((HW.out.alloc (by omega) _).alloc (by simp;omega) _).grown hgrow (by simp;omega) (fun j hj=>by have:=(HO.out.lt _ hj).1;omega)).setCell (by simp) _);have c0:w3.cell? ⟨w.heap.size+1+1,7,none⟩=some (.slice av k cv):=kB.cell 7;have c1:=kB.free 7;obtain⟨a2,c2,rfl⟩:=row_slice hown
    clear hown hgrow hat kB q qf hne hne0;go_wp2_with fail
    all_goals (go_roundw<;>first | exact⟨k+1,_,by omega,by go_num,R1,R2,R3⟩ | (simp[intOf];omega))
  · obtain rfl:k=n:=by omega
    have HO2:=qq (show wr.ownsRow (w.heap.size+3) 199 6 (.slice av k cv) k (regsL rs) by
      have:=HO.out;rw[List.take_of_length_le (by rw[←HN.out];omega)] at this;exact this)
    have HRB:=qq (HRB0.out.below (by rw[HZ.out];exact HW.out));obtain⟨qr,fr⟩:=HRB.out.out;have lr:=HRB.out.lt;have BR:Below w.heap.size w wr:=HWB.out.trans (HW.out.mono (by omega));go_wp2_with fail
    exact bodyPost_ret (v:=.agg #[an,aq,oc,dp,.float .f64 ex,pa,de,.slice av k cv]) (by simp[results,Tryz.results97,go_sem,qr,fr,lr,Nat.ne_of_lt lr]) rfl ⟨av,cv,rfl,row_base (row_heap HO2.out (fun j hj=>heap8 _ _ _ _ _ _ _ _ _ _ _ (by have:=(HO2.out.lt j hj).1;omega))) (by omega),below8 BR _ (by omega) _ _ _ _ _ _ _ _⟩
theorem regNe (rn rp sp sd ss sh:Int) (w:World):(binOp .neq 199 (.agg #[rn,rp,sp,sd,ss,sh]) (.agg #[rn,rp,sp,sd,ss,sh])).run Tryz.prog w=.ok (.bool false) w:=by
 go_simp
theorem rsameAct_self (an aq oc dp : Int) (ex : Nat) (pa de : Int) (a1 a2 : Option Addr) (c1 c2 : Nat) (rs : List SReg) (B1 B2 : Nat) (T1 T2 : TypeId) (w : World) (h1 : w.ownsRow B1 T1 6 (.slice a1 rs.length c1) rs.length (regsL rs)) (h2 : w.ownsRow B2 T2 6 (.slice a2 rs.length c2) rs.length (regsL rs)) (hx : F64 ex) (hl : rs.length ≤ 1000) :
    Calls Tryz.prog 96 #[.agg #[an,aq,oc,dp,.float .f64 ex,pa,de,.slice a1 rs.length c1],.agg #[an,aq,oc,dp,.float .f64 ex,pa,de,.slice a2 rs.length c2]] w (Makes (.bool true) w):=by
 have G:∀(B:Nat) (T:TypeId) (v:Option Addr) (vc:Nat),w.ownsRow B T 6 (.slice v rs.length vc) rs.length (regsL rs)→Hid (∀k,k<rs.length→∃r,rs[k]? =some r∧∃b,v=some ⟨b,0,none⟩∧b<w.heap.size∧RegC w b (k*6) r):=fun B T v vc h=>qq (fun k hk=>by
   obtain⟨a',cap',hv,_,hr⟩:=reg_row h;obtain⟨g,ha,hg,_,hc⟩:=hr (by omega);simp only[Value.slice.injEq,true_and] at hv;exact⟨rs[k],List.getElem?_eq_getElem hk,g,by rw[hv.1,ha],hg,hc k _ (List.getElem?_eq_getElem hk)⟩)
 have H1:=G _ _ _ _ h1;have H2:=G _ _ _ _ h2;have HS:=qq (fun W=>rsame09_self an aq oc dp ex W hx);clear G h1 h2 hx;obtain⟨n,hn⟩:∃n,n=rs.length:=⟨_,rfl⟩
 rw[←hn] at H1 H2 hl⊢;clear hn;have B0:Below w.heap.size w ((w.alloc (.cells #[an,aq,oc,dp,.float .f64 ex,pa,de,.slice a1 n c1] 116)).alloc (.cells #[an,aq,oc,dp,.float .f64 ex,pa,de,.slice a2 n c2] 116)):=by go_grown
 have HA:=qq ((Blk.fresh w #[an,aq,oc,dp,.float .f64 ex,pa,de,.slice a1 n c1] 116 _ rfl).alloc (.cells #[an,aq,oc,dp,.float .f64 ex,pa,de,.slice a2 n c2] 116));have HB:=qq (Blk.fresh (w.alloc (.cells #[an,aq,oc,dp,.float .f64 ex,pa,de,.slice a1 n c1] 116)) #[.int .i64 an,.int .i64 aq,.int .i64 oc,.int .i64 dp,.float .f64 ex,.int .i64 pa,.int .i64 de,.slice a2 n c2] 116 (w.heap.size+1) (by simp))
 have HB0:=qq B0;clear B0;go_enter Tryz.func96,Tryz.ntmps96;go_wp2_with fail;refine(HS.out _).mono ?_;rintro e w5 ⟨rfl,hb5⟩;have HA:=qq (HA.out.below hb5);have HB:=qq (HB.out.below hb5);have HB0:=qq (below_then HB0.out hb5);clear hb5;obtain⟨qa,fa⟩:=HA.out.out;obtain⟨qb,fb⟩:=HB.out.out;go_wp2_with fail;clear qa fa qb fb
 go_loopw [38] (fun i wr=>∃k:Nat,k≤n∧i=.int .i64 (k:Nat)∧Below w5.heap.size w5 wr) (fun i _=>n - (intOf i).toNat)
 case atStart=>exact⟨0,by omega,by first | rfl | go_num,Below.refl _ _⟩
 case round=>
  obtain⟨k,hk,rfl,hB⟩:=hrel;have qa:=(HA.out.below hB).cell;have qb:=(HB.out.below hB).cell;have B1:Below w.heap.size w wr:=below_then HB0.out hB;by_cases hlt:k<n
  · obtain⟨f,hf,b1,rfl,hl1',hc1⟩:=H1.out k hlt;obtain⟨f',hf',b2,rfl,hl2',hc2⟩:=H2.out k hlt;obtain rfl:f=f':=by rw[hf] at hf';injection hf'
    have c1:=hc1.below B1 hl1';have c2:=hc2.below B1 hl2';have hki:(k:Int)<(n:Int):=by omega
    have hk0:(0:Int)≤(k:Int):=by omega
    clear hf hf' hc1 hc2;obtain⟨rn,rp,⟨sp,sd,ss,sh⟩⟩:=f;obtain⟨p0,p1,p2,p3,p4,p5⟩:=c1;obtain⟨r0,r1,r2,r3,r4,r5⟩:=c2;dsimp only at p0 p1 p2 p3 p4 p5 r0 r1 r2 r3 r4 r5;have hne:=regNe rn rp sp sd ss sh;have q1:=qa 7;have q2:=qb 7;clear qa qb;go_wp2_with fail;go_quiet (fail)
    all_goals go_wp2_with fail
    all_goals (go_roundw<;>first | exact⟨k+1,by omega,by go_num,below_then hB ⟨rfl,rfl,rfl,Nat.le_refl _,fun _ _=>rfl⟩⟩ | (simp[intOf];omega))
  · obtain rfl:k=n:=by omega
    go_wp2_with fail;go_ret;exact⟨rfl,B1⟩
theorem Child_is (L:SLoc) (S:Sto) (pt:Int) (w:World) (h:StoreAt L S w) (hG:StoGood S) (hp:0≤pt∧pt<(S.parts.length:Int)) (i:Nat) (a:SAct) (hc:schild S (pt+1)=some i) (ha:S.acts[i]? =some a):Calls Tryz.prog 27 #[.pointer (some ⟨L.sb,0,none⟩),.int .i64 pt] w (ActOut a w):=by
 have H:=qq h;have HH:=qq (fun W hW=>has_of L S pt W hW);rw[decide_eq_true hp] at HH;have HC:=qq (fun W hW=>child_of L S (pt+1) W hW hG);rw[if_neg (by omega)] at HC;rw[hc] at HC;have hm:=List.mem_of_getElem? ha;have hil:=(List.getElem?_eq_some_iff.1 ha).1;obtain⟨x,hx⟩:∃x,L.ab[i]? =some x:=⟨_,List.getElem?_eq_getElem (by rw[h.len];exact hil)⟩
 have hap:aptr L (some i)=.pointer (some ⟨x.1,0,none⟩):=by simp[aptr,hx]
 rw[hap] at HC;have HGY:=qq (fun W (hW:StoreAt L S W)=>got_yes x.1 a x.2 W (hW.act i x a hx ha).1 (hW.act i x a hx ha).2 (hG.act a hm).len);obtain⟨xb,xv⟩:=x;obtain⟨an,aq,oc,dp,ex,pa,de,rs⟩:=a;unfold ActOut at HGY⊢;dsimp only[actC] at*;obtain⟨vn,hvn⟩:∃n,n=rs.length:=⟨_,rfl⟩
 rw[←hvn] at HGY⊢;have h8:=hG.parts;clear h hG hc ha hm hil hx hap hvn;go_enter Tryz.func27,Tryz.ntmps27;go_wp2_with fail;refine(HH.out _ (H.out.below (bel_alloc (Below.refl w.heap.size w) _))).mono ?_;rintro e w1 ⟨rfl,rfl⟩;go_wp2_with fail;refine(HC.out _ (H.out.below (bel_alloc (Below.refl w.heap.size w) _))).mono ?_;rintro e w2 ⟨rfl,hb2⟩
 have K1:=qq ((Blk.fresh _ _ _ (w.heap.size) (by simp)).below hb2);have HB:=qq (below_then (bel_alloc (Below.refl w.heap.size w) _) hb2);have z2:=HB.out.size;clear hb2;obtain⟨lK1,qK1,fK1⟩:=K1.out;go_wp2_with fail;clear qK1 fK1 lK1;refine(HGY.out _ (H.out.below HB.out)).mono ?_;rintro e w3 ⟨v',rfl,ho,hb3⟩;obtain⟨va,vc,rfl,_,_⟩:=reg_row ho;have HZ0:=qq (HB.out).size;have ooK1:=K1.out.lt
 have K1:=qq (K1.out.below hb3);have HB:=qq (below_then HB.out hb3);have z3:=HB.out.size;clear hb3;have HO:=qq (ho);obtain⟨lK1,qK1,fK1⟩:=K1.out;go_wp2_with fail;have hV0:=(sst (sst (sst (sst (sst (sst (sst (sst K1.out 0 (.int .i64 an)) 1 (.int .i64 aq)) 2 (.int .i64 oc)) 3 (.int .i64 dp)) 4 (.float .f64 ex)) 5 (.int .i64 pa)) 6 (.int .i64 de)) 7 (.slice va vn vc))
 have hVq0:=hV0.cell;have hVf0:=hV0.free;refine bodyPost_ret (v:=.tuple #[.agg #[an,aq,oc,dp,.float .f64 ex,pa,de,.slice va vn vc],.bool true]) (by simp[results,Tryz.results27,go_sem,hVq0,hVf0]) rfl ?_;clear qK1 fK1 lK1
 exact⟨.slice va vn vc,rfl,row_base (row_st (row_st (row_st (row_st (row_st (row_st (row_st (row_st HO.out (p:=⟨w.heap.size,0,none⟩) (by(try dsimp only);omega) _) (p:=⟨w.heap.size,1,none⟩) (by(try dsimp only);omega) _) (p:=⟨w.heap.size,2,none⟩) (by(try dsimp only);omega) _) (p:=⟨w.heap.size,3,none⟩) (by(try dsimp only);omega) _) (p:=⟨w.heap.size,4,none⟩) (by(try dsimp only);omega) _) (p:=⟨w.heap.size,5,none⟩) (by(try dsimp only);omega) _) (p:=⟨w.heap.size,6,none⟩) (by(try dsimp only);omega) _) (p:=⟨w.heap.size,7,none⟩) (by(try dsimp only);omega) _) HZ0.out,(bst (bst (bst (bst (bst (bst (bst (bst HB.out w.heap.size 0 _) w.heap.size 1 _) w.heap.size 2 _) w.heap.size 3 _) w.heap.size 4 _) w.heap.size 5 _) w.heap.size 6 _) w.heap.size 7 _)⟩
theorem lGet_at {S:Sto} (hS:StoGood S) {i:Nat} {a:SAct} (ha:S.acts[i]? =some a):lGet S a.an a.aq=some (i,a):=by
 obtain⟨hi,he⟩:=List.getElem?_eq_some_iff.1 ha;have hf:sfind S a.an a.aq=some i:=by
  unfold sfind;rw[List.findIdx?_eq_some_iff_getElem];refine⟨hi,by rw[he];simp,fun j hj=> ?_⟩;have:=(List.pairwise_iff_getElem.1 hS.sorted) j i (by omega) hi hj;rw[he] at this;simp only[decide_eq_true_eq,not_and,Bool.not_eq_true,decide_eq_false_iff_not];intro _ h2;omega
 unfold lGet;rw[hf];simp only[ha]
theorem partNe (a b c d e f g:Int) (w:World):(binOp .neq 166 (.agg #[a,b,c,d,e,f,g]) (.agg #[a,b,c,d,e,f,g])).run Tryz.prog w=.ok (.bool false) w:=by
 go_simp
theorem num_of (n:Int) (h:0≤n∧n≤14) (ea:Int→Addr) (w:World) (hE:EnvS ea w):Calls Tryz.prog 20 #[errOf ea n] w (Makes (.int .i64 n) w):=by
 unfold errOf;split
 · rename_i h0;subst h0;exact num_nil w
 · exact num_some n (by omega) ea w hE.e
def exFs:List SFact:=[⟨1,1,0,0,0,0,0,1,0,0,0,0,0,4621256167635550208⟩,⟨2,1,0,0,0,0,1,0,0,0,0,0,0,0⟩,⟨3,1,0,0,0,0,0,0,0,0,5,0,0,0⟩]
def exAct:SAct:=⟨1,0,1,0,4621256167635550208,0,0,[⟨0,0,⟨1,1,5,0⟩⟩]⟩
theorem exFit:sfit ⟨1,0,[],[]⟩ exFs=(⟨1,1,[exAct],[]⟩,true):=by kernel_rfl
theorem exF64:∀f∈exFs,F64 f.ex:=by
 intro f hf;simp only[exFs,List.mem_cons,List.not_mem_nil,or_false] at hf;rcases hf with rfl | rfl | rfl<;>(unfold F64;decide)
theorem alive15_of (ea:Int→Addr) (w:World) (hE:EnvS ea w):Calls Tryz.prog 18 #[] w (Makes (.bool true) w):=by
 have HN:=qq (snew_yes 1 w (by omega));have HE:=qq hE;clear hE;go_enter Tryz.func18,Tryz.ntmps18;go_wp2_with fail;refine HN.out.mono ?_;rintro e w1 ⟨rfl,rfl⟩;obtain⟨w1,hw1⟩:∃W,W=w.alloc (.cells #[.int .i64 1,.int .i64 0,.slice none 0 0,.slice none 0 0] 154):=⟨_,rfl⟩
 have HB1:Hid (Below w.heap.size w w1):=qq (by rw[hw1];go_grown);have HZ1:Hid (w1.heap.size=w.heap.size+1):=qq (by rw[hw1];simp);have HS0:Hid (StoreAt ⟨w.heap.size,.slice none 0 0,.slice none 0 0,[]⟩ ⟨1,0,[],[]⟩ w1):=qq (by
   have hb:Blk w1 w.heap.size #[.int .i64 1,.int .i64 0,.slice none 0 0,.slice none 0 0]:=by rw[hw1];exact Blk.fresh w _ _ _ rfl
   exact⟨hb,World.ownsRow_nil _ _ _ _,World.ownsRow_nil _ _ _ _,fun i y a h=>by simp at h,by simp[SLoc.foot,Value.ownBlock,blocks]⟩)
 rw[←hw1];clear hw1
 obtain⟨W2,hW2⟩:∃W,W=(w1.alloc (.cells #[.int .i64 1,.int .i64 0] 36)).alloc (.cells #[.int .i64 1,.int .i64 1,.int .i64 0,.int .i64 0,.int .i64 0,.int .i64 0,.int .i64 0,.int .i64 1,.int .i64 0,.int .i64 0,.int .i64 0,.int .i64 0,.int .i64 0,.float .f64 4621256167635550208,.int .i64 2,.int .i64 1,.int .i64 0,.int .i64 0,.int .i64 0,.int .i64 0,.int .i64 1,.int .i64 0,.int .i64 0,.int .i64 0,.int .i64 0,.int .i64 0,.int .i64 0,.float .f64 0,.int .i64 3,.int .i64 1,.int .i64 0,.int .i64 0,.int .i64 0,.int .i64 0,.int .i64 0,.int .i64 0,.int .i64 0,.int .i64 0,.int .i64 5,.int .i64 0,.int .i64 0,.float .f64 0] 39):=⟨_,rfl⟩
 have HB2:Hid (Below w1.heap.size w1 W2):=qq (by rw[hW2];go_grown);have HK3:Hid (Blk W2 w1.heap.size #[.int .i64 1,.int .i64 0]):=qq (by rw[hW2];exact(Blk.fresh w1 #[.int .i64 1,.int .i64 0] 36 _ rfl).alloc _)
 have HKF:Hid (Blk W2 (w1.heap.size+1) #[.int .i64 1,.int .i64 1,.int .i64 0,.int .i64 0,.int .i64 0,.int .i64 0,.int .i64 0,.int .i64 1,.int .i64 0,.int .i64 0,.int .i64 0,.int .i64 0,.int .i64 0,.float .f64 4621256167635550208,.int .i64 2,.int .i64 1,.int .i64 0,.int .i64 0,.int .i64 0,.int .i64 0,.int .i64 1,.int .i64 0,.int .i64 0,.int .i64 0,.int .i64 0,.int .i64 0,.int .i64 0,.float .f64 0,.int .i64 3,.int .i64 1,.int .i64 0,.int .i64 0,.int .i64 0,.int .i64 0,.int .i64 0,.int .i64 0,.int .i64 0,.int .i64 0,.int .i64 5,.int .i64 0,.int .i64 0,.float .f64 0]):=qq (by rw[hW2];exact Blk.fresh _ _ _ _ (by simp))
 go_wp2_with fail;rw[←hW2];clear hW2;go_loopw [27] (fun i wr=>∃k:Nat,k≤3∧i=.int .i64 (k:Nat)∧Hid (∃U,sfit ⟨1,0,[],[]⟩ exFs=sfit U (exFs.drop k)∧StoGood U∧SGoes ⟨w.heap.size,.slice none 0 0,.slice none 0 0,[]⟩ U W2 wr)) (fun i _=>3 - (intOf i).toNat)
 case atStart=>exact⟨0,by omega,by first | rfl | go_num,qq ⟨_,rfl,splay_good (node:=1) (by omega) [],SGoes.same (HS0.out.below HB2.out) (Below.refl _ _)⟩⟩
 case round=>
  obtain⟨k,hk,rfl,HU⟩:=hrel;obtain⟨U,hU,hGU,hgo⟩:=HU.out;obtain⟨L1,hL1,hS1,hg1⟩:=hgo;dsimp only at hL1;have hz1:=HZ1.out;have hft:∀j∈(⟨w.heap.size,.slice none 0 0,.slice none 0 0,[]⟩:SLoc).foot,j=w.heap.size:=fun j hj=>by simpa[SLoc.foot,Value.ownBlock,blocks] using hj
  have hz2:=HB2.out.size;have hnl1:∀j∈L1.foot,w.heap.size≤j:=fun j hj=>by
   rcases hg1.new j hj with e | e
   · rw[hft j e];exact Nat.le_refl _
   · omega
  have hbe:Below w.heap.size w wr:=(HB1.out.trans (HB2.out.mono (by omega))).trans (hg1.below (fun j hj=>by rw[hft j hj];exact Nat.le_refl _) (by omega));have l3:=HK3.out.lt;have lF:=HKF.out.lt;have K3:=qq (HK3.out.same hg1.size (hg1.block _ l3 (fun h=>by have:=hft _ h;omega)));have KF:=qq (HKF.out.same hg1.size (hg1.block _ lF (fun h=>by have:=hft _ h;omega)));by_cases hlt:k<3
  · have hks:k<exFs.length:=by unfold exFs;exact hlt
    obtain⟨f,hf⟩:∃f,f=exFs[k]:=⟨_,rfl⟩
    have hst:sfit U (exFs.drop k)=if(sapply U f).2=0 then sfit (sapply U f).1 (exFs.drop (k+1)) else((sapply U f).1,false):=by
     rw[List.drop_eq_getElem_cons hks,←hf];rfl
    have hx:F64 f.ex:=by rw[hf];exact exF64 _ (List.getElem_mem hks)
    have h0:(sapply U f).2=0:=by
     rw[exFit,hst] at hU;by_cases h:(sapply U f).2=0
     · exact h
     · rw[if_neg h] at hU;injection hU with _ h2;cases h2
    rw[hst,if_pos h0] at hU;have hgood:StoGood (sapply U f).1:=sapply_good hGU;have HA:=qq (fun W (hW:EnvG L1 ea W) (hs:StoreAt L1 U W)=>apply_of L1 U f ea W hx hW hs hGU);obtain⟨T,hT⟩:∃T,T=(sapply U f).1:=⟨_,rfl⟩
    rw[←hT,h0] at HA;rw[←hT] at hU hgood
    have hcell:∀j v,(#[.int .i64 1,.int .i64 1,.int .i64 0,.int .i64 0,.int .i64 0,.int .i64 0,.int .i64 0,.int .i64 1,.int .i64 0,.int .i64 0,.int .i64 0,.int .i64 0,.int .i64 0,.float .f64 4621256167635550208,.int .i64 2,.int .i64 1,.int .i64 0,.int .i64 0,.int .i64 0,.int .i64 0,.int .i64 1,.int .i64 0,.int .i64 0,.int .i64 0,.int .i64 0,.int .i64 0,.int .i64 0,.float .f64 0,.int .i64 3,.int .i64 1,.int .i64 0,.int .i64 0,.int .i64 0,.int .i64 0,.int .i64 0,.int .i64 0,.int .i64 0,.int .i64 0,.int .i64 5,.int .i64 0,.int .i64 0,.float .f64 0]:Array Value)[k*14+j]? =some v→wr.cell? ⟨w1.heap.size+1,k*14+j,none⟩=some v:=fun j v h=>(KF.out.cell _).trans h
    have hat:FactAt wr (w1.heap.size+1) (k*14) f:=by
     have hf':exFs[k]? =some f:=by rw[hf];exact List.getElem?_eq_getElem hks
     clear hf;have hk3:k=0∨k=1∨k=2:=by omega
     clear hst hU hks;rcases hk3 with rfl | rfl | rfl<;>(injection hf' with e;subst e;exact⟨hcell 0 _ rfl,hcell 1 _ rfl,hcell 2 _ rfl,hcell 3 _ rfl,hcell 4 _ rfl,hcell 5 _ rfl,hcell 6 _ rfl,hcell 7 _ rfl,hcell 8 _ rfl,hcell 9 _ rfl,hcell 10 _ rfl,hcell 11 _ rfl,hcell 12 _ rfl,hcell 13 _ rfl⟩)
    have lFr:=KF.out.lt;have hki:(k:Int)<3:=by omega
    have hk0:(0:Int)≤(k:Int):=by omega
    have HU1:=qq hU;have HGD:=qq hgood;have HBE:=qq hbe;have HNL1:=qq hnl1;have HS1:=qq hS1;have HG1:=qq hg1;have HL1:=qq hL1;obtain⟨c0,c1,c2,c3,c4,c5,c6,c7,c8,c9,c10,c11,c12,c13⟩:=hat;clear hf hst hx h0 hU hgood hbe hnl1 hS1 hg1 hT hGU HU hcell hft hz1 hz2 l3 lF hks;obtain⟨k',an,aq,rg,nd,pt,pr,oc,dp,pa,st,hw,de,ex⟩:=f;dsimp only[factV,factC,ApplyEnds] at*;simp only[HL1.out] at HA;go_wp2_with fail
    refine(HA.out _ (envG_of HE.out (below_then HBE.out (by go_grown)) HNL1.out) (HS1.out.below (by go_grown))).mono ?_;rintro e w5 ⟨rfl,hs⟩;have HSG:=qq (show SGoes ⟨w.heap.size,.slice none 0 0,.slice none 0 0,[]⟩ T W2 w5 by
      obtain⟨L2,hL2,hS2,hg2⟩:=hs;exact⟨L2,by rw[hL2,HL1.out],hS2,(HG1.out.then_below (w2:=wr.alloc (.cells #[k',an,aq,rg,nd,pt,pr,oc,dp,pa,st,hw,de,.float .f64 ex] 39)) (by go_grown)).trans hg2⟩)
    clear hs;have he0:errOf ea 0=.nilIface:=rfl;simp only[he0];go_wp2_with fail;go_roundw
    case rel=>exact⟨k+1,by omega,by go_num,qq ⟨T,HU1.out,HGD.out,HSG.out⟩⟩
    case measure=>(simp[intOf];omega)
  · obtain rfl:k=3:=by omega
    rw[exFit] at hU;have hU2:U=⟨1,1,[exAct],[]⟩:=by
     have h:sfit U (exFs.drop 3)=(U,true):=rfl;rw[h] at hU;injection hU with h1 _
     exact h1.symm
    subst hU2;have HFD:=qq (fun W hW=>Find_yes L1 ⟨1,1,[exAct],[]⟩ 1 0 0 exAct W hW hGU (lGet_at (i:=0) hGU rfl));have HS1:=qq hS1;have HBE:=qq hbe;unfold ActOut exAct at HFD;dsimp only[actC,List.length] at HFD;simp only[hL1] at HFD;clear hU hS1 hbe hg1 hnl1 hGU HU hft hz1 hz2;have q3:=K3.out.cell;have f3:=K3.out.free;have l3':=K3.out.lt;have q30:=q3 0;have q31:=q3 1;go_wp2_with fail
    refine(HFD.out _ (HS1.out.below (by go_grown))).mono ?_;rintro e w5 ⟨v',rfl,ho,hb5⟩;have B5:=below_then HBE.out hb5;obtain⟨va,vc,rfl,_,hr⟩:=reg_row ho;obtain⟨g,rfl,hg,_,hc⟩:=hr (by decide);obtain⟨r0,r1,r2,r3,r4,r5⟩:=hc 0 _ rfl;dsimp only at r0 r1 r2 r3 r4 r5;clear ho hr hc q3 f3;go_wp2_with fail;go_ret;exact⟨rfl,below_then B5 (by go_grown)⟩
end Go.Proofs.YtlkajejbfojkeaaGreatDoor
