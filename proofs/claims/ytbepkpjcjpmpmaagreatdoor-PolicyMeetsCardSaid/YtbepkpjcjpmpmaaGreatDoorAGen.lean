/- Gen -/
import Derived.Test.YtbepkpjcjpmpmaaGreatDoorAPolPToStepS
import Derived.Deep.RegionWith
import Derived.Deep.AppendLies
import Derived.Maps.AppendAt
import Derived.Laws.Tables
import Derived.OrdersIn
import Derived.TacticsInMore
import Derived.RangeFuncWrites
import Derived.Laws.AppendOwnNone
set_option linter.unusedSimpArgs false
set_option linter.unusedVariables false
set_option maxRecDepth 100000
set_option maxHeartbeats 16000000
namespace Go.Proofs.YtbepkpjcjpmpmaaGreatDoor
open Go.RowKit Go.Shelf
theorem Blk.same {w w':World} {b:Nat} {C:Array Value} (h:Blk w b C) (hz:w.heap.size≤w'.heap.size) (he:w'.heap[b]? =w.heap[b]?):Blk w' b C:=
 ⟨Nat.lt_of_lt_of_le h.lt hz,fun i=>(World.cell?_of_block (w:=w) (a:=⟨b,i,none⟩) he).trans (h.cell i),fun i=>(World.frozen?_of_block (w:=w) (a:=⟨b,i,none⟩) he).trans (h.free i)⟩
theorem row_heap {w w':World} {B:Nat} {e:TypeId} {size:Nat} {v:Value} {n:Nat} {xs:List Value} (h:w.ownsRow B e size v n xs) (he:∀k,v.ownBlock=some k→w'.heap[k]? =w.heap[k]?):w'.ownsRow B e size v n xs:=by
 refine⟨h.1,?_⟩;rcases h.2 with hn | ⟨g,cap,cur,rfl,hb,hg,r⟩
 · exact .inl hn
 · exact .inr ⟨g,cap,cur,rfl,hb,(he g rfl).trans hg,r⟩
theorem row_slice {w:World} {B:Nat} {e:TypeId} {size:Nat} {v:Value} {n:Nat} {xs:List Value} (h:w.ownsRow B e size v n xs):∃a cap,v=.slice a n cap:=by
 rcases h.2 with⟨rfl,rfl⟩ | ⟨g,cap,cur,rfl,_⟩
 · exact⟨_,_,rfl⟩
 · exact⟨_,_,rfl⟩
theorem row_form {w : World} {B : Nat} {e : TypeId} {size : Nat} {v : Value} {n : Nat} {xs : List Value} (h : w.ownsRow B e size v n xs) (hn : 0 < n) :
    ∃g cap,v=.slice (some ⟨g,0,none⟩) n cap∧n≤cap∧cap≤maxLen∧g<w.heap.size∧(∀i u,xs[i]? =some u→w.cell? ⟨g,i,none⟩=some u)∧∀i,w.frozen? ⟨g,i,none⟩=false:=by
 rcases h.2 with⟨rfl,rfl⟩ | ⟨g,cap,cur,rfl,hb,hg,hc,hm,hs,ht⟩
 · omega
 · refine⟨g,cap,rfl,hc,hm,(Array.getElem?_eq_some_iff.1 hg).1,fun i u hu=> ?_,fun i=>by simp[World.frozen?,hg]⟩;have:=h.cells (g:=g) rfl i u hu;rwa[Addr.add_lit,Nat.zero_add] at this
theorem row_set {w:World} {B:Nat} {e:TypeId} {size g cap n:Nat} {xs:List Value} (h:w.ownsRow B e size (.slice (some ⟨g,0,none⟩) n cap) n xs) (i:Nat) (x:Value) (hi:i<n*size):(w.setCell ⟨g,i,none⟩ x).ownsRow B e size (.slice (some ⟨g,0,none⟩) n cap) n (xs.set i x):=by
 refine⟨by rw[List.length_set];exact h.1,?_⟩;rcases h.2 with⟨hv,_⟩ | ⟨g',cap',cur,hv,hb,hg,hc,hm,hs,ht⟩
 · cases hv
 · obtain⟨rfl,rfl⟩:g=g'∧cap=cap':=by simp at hv;exact hv
   refine .inr ⟨g,cap,cur.setIfInBounds i x,rfl,hb,?_,hc,hm,by simpa using hs,?_⟩
   · rw[setCell_eq_setRow w g i cur e (0,0) x hg];exact setRow_heap w g cur _ e _ hg
   · rw[Array.toList_setIfInBounds,List.take_set,ht]
theorem row_base {w:World} {B B':Nat} {e:TypeId} {size:Nat} {v:Value} {n:Nat} {xs:List Value} (h:w.ownsRow B' e size v n xs) (hB:B≤B'):w.ownsRow B e size v n xs:=by
 refine⟨h.1,?_⟩;rcases h.2 with h | ⟨g,cap,cur,h1,h2,h3⟩
 · exact .inl h
 · exact .inr ⟨g,cap,cur,h1,Nat.le_trans hB h2,h3⟩
theorem row_mono {w:World} {B B':Nat} {T:TypeId} {size:Nat} {v:Value} {n:Nat} {xs:List Value} (h:w.ownsRow B' T size v n xs) (hb:B≤B'):w.ownsRow B T size v n xs:=by
 refine⟨h.1,?_⟩;rcases h.2 with h | ⟨g,cap,cur,h1,h2,h3,h4⟩
 · exact .inl h
 · exact .inr ⟨g,cap,cur,h1,Nat.le_trans hb h2,h3,h4⟩
theorem step_app {w : World} {ops : Array Oper} {o : Oper} {a : Act} {K : Act → World → Prop} {Q : Exit → Act → World → Prop} {E : Prop} (hgd : o.guard = none) (s x : Operand) (t : TypeId)
    (ho:o.op=.call {callee:=.builtin .append,args:= #[s,x],argTypes:= #[t,t]})
    (base:Nat) (e:TypeId) (i:TypeInfo) (z:Value) (size bytes:Nat) (ht:Tryz.prog.underlying t=some (.slice e)) (hi:Tryz.prog.info? e=some i) (hz:i.zero=some z)
    (hsize:i.size=size) (hby:i.bytes=bytes) (hzs:z.cells.size=size) (hsz:0<size)
    (v:Value) (n:Nat) (xs:List Value) (hs:a.eval s=v) (hown:w.ownsRow base e size v n xs)
    (ad:Addr) (m c:Nat) (news:List Value) (hx:a.eval x=.slice (some ad) m c) (hl:news.length=m*size) (hnews:∀j u,news[j]? =some u→w.cell? (ad.add j)=some u) (h1:∀u∈news,u.oneCell'=true)
    (h63:n+m≤maxLen) (hbytes:(n+m)*bytes≤140737488355328) (hbase:base≤w.heap.size)
    (h:∀v' w',w'.ownsRow base e size v' (n+m) (xs ++news)→w.grownBy w' v.ownBlock→(v'.ownBlock=v.ownBlock∨v'.ownBlock=some w.heap.size)→K (a.put o.dst v') w'):
    if Region.wanted o (yielded ops a.tmps)=true then Oper.wp Tryz.prog o a w K Q else E:=by
 have hw:Region.wanted o (yielded ops a.tmps)=true:=by simp[Region.wanted,hgd]
 rw[if_pos hw];obtain⟨v',w',hr,h2,h3,h4,h5⟩:=run_append_own_at (P:=Tryz.prog) w base t o.type e i z size bytes ht hi hz hsize hby hzs hsz v n xs hown ad m c news hl hnews h1 h63 hbytes hbase;unfold Oper.wp;simp only[execOp,ho,resolve,invoke,builtin,Sem.run_bind,Sem.run_pure,Result.andThen_ok,List.map_toArray,List.map_cons,List.map_nil,hs,hx,hr];exact h v' w' h2 h3 h5
theorem lit_cells {W:World} {b:Nat} {l:List Value} (h:Blk W b l.toArray):∀j u,l[j]? =some u→W.cell? ((⟨b,0,none⟩:Addr).add j)=some u:=fun j u hu=>by
 rw[Addr.add_lit,Nat.zero_add,h.cell];simpa using hu
theorem Blk.set' {w:World} {b:Nat} {C:Array Value} (h:Blk w b C) (i:Nat) (hi:i<C.size) (v:Value):Blk (w.setCell ⟨b,i,none⟩ v) b (C.set i v hi):=by
 refine⟨by simpa using h.lt,fun j=> ?_,fun j=>by rw[World.frozen?_setCell];exact h.free j⟩;by_cases hj:j=i
 · subst hj;have h1:w.cell? ⟨b,j,none⟩=some C[j]:=by rw[h.cell];exact Array.getElem?_eq_getElem hi
   rw[World.cell?_setCell_same (h:=h1),Array.getElem?_set_self]
 · rw[World.cell?_setCell_other (h:=by intro e;injection e with _ e2;exact hj e2.symm),h.cell,Array.getElem?_set_ne];exact fun e=>hj e.symm
theorem row_end {w:World} {g:Nat} {cells old:Array Value} {t:TypeId} (hg:w.heap[g]? =some (.cells old t (0,0))):Blk (w.setRow g cells) g cells∧w.grownBy (w.setRow g cells) (some g):=by
 have hh:=setRow_heap w g old cells t (0,0) hg;have hsz:(w.setRow g cells).heap.size=w.heap.size:=by simp
 have hlt:=(Array.getElem?_eq_some_iff.1 hg).1;refine⟨⟨by omega,fun i=>by simp[World.cell?,hh],fun i=>by simp[World.frozen?,hh]⟩,⟨rfl,rfl,rfl,by omega,fun k _ hk=>setRow_other w g k _ (fun e=>hk (by rw[e]))⟩⟩
theorem own_emptyB (w:World) (B:Nat) (T:TypeId) (size:Nat) (hB:B≤w.heap.size):(w.alloc (.cells #[] T)).ownsRow B T size (.slice (some ⟨w.heap.size,0,none⟩) 0 0) 0 []:=
 ⟨by simp,.inr ⟨w.heap.size,0,#[],rfl,hB,World.alloc_heap_new w _,Nat.le_refl _,by unfold maxLen;omega,by simp,by simp⟩⟩
section
variable {P:Program} {ops:Array Oper} {Q:Exit→Act→World→Prop} {md:Region.Mode} {S:World→Prop}
def lastOp (md:Region.Mode) (ops:Array Oper) (j:Nat):Bool:=match ops[j]? with
 | none=>false
 | some oj=>(List.range ops.size).all fun k=>k==j || oj.after.any (fun e=>Region.binds md e && e.on==k)
def wpAnyM (P:Program) (md:Region.Mode) (ops:Array Oper) (Q:Exit→Act→World→Prop) (S:World→Prop):Nat→Array Bool→Act→World→Prop
 | 0,listed,a,w=>Region.ready md ops listed=[]∧Q .normal a w
 | fuel+1,listed,a,w=>
  (Region.ready md ops listed=[]→Q .normal a w)∧
  ∀i∈Region.ready md ops listed,wpOp P ops Q i (fun a' w'=>(lastOp md ops i=true∨S w')∧wpAnyM P md ops Q S fuel (listed.setIfInBounds i true) a' w') a w
theorem wpAny_of_M:∀(fuel:Nat) (listed:Array Bool) (a:Act) (w:World),wpAnyM P md ops Q S fuel listed a w→wpAny P md ops Q fuel listed a w
 | 0,_,_,_,h=>h
 | fuel+1,_,_,_,h=>⟨h.1,fun i hi=>wpOp_mono (fun a' w' h'=>wpAny_of_M fuel _ a' w' h'.2) (h.2 i hi)⟩
theorem not_last {i j:Nat} {listed:Array Bool} (hi:i∈Region.ready md ops listed) (hj:j∈Region.ready md ops listed) (hne:j≠i):lastOp md ops j=false:=by
 obtain⟨hiun,oi,hoi,_⟩:=mem_ready.1 hi;obtain⟨_,oj,hoj,hall⟩:=mem_ready.1 hj;unfold lastOp;rw[hoj];dsimp only;rw[List.all_eq_false];refine⟨i,List.mem_range.2 (Array.getElem?_eq_some_iff.1 hoi).1,?_⟩;have h1:(i==j)=false:=by simpa using(Ne.symm hne)
 rw[h1,Bool.false_or];intro hx;obtain⟨e,he,hb⟩:=Array.any_eq_true'.1 hx;simp only[Bool.and_eq_true,beq_iff_eq] at hb;have h2:=hall e he hb.1;rw[hb.2] at h2;rcases Nat.lt_or_ge i listed.size with h' | h'
 · simp[h'] at hiun h2;rw[hiun] at h2;cases h2
 · simp[Array.getElem?_eq_none h'] at h2
theorem wpAnyM_first {i : Nat} {oi : Oper} {v : Value} (hi : ops[i]? = some oi) (hsel : ∀ (j : Nat) (o : Oper) cs b, ops[j]? = some o → o.op ≠ .select cs b)
    (hQ:∀c a w,Q (.panic c) (a.put oi.dst v) w→Q (.panic c) a w):
    ∀(fuel:Nat) (listed:Array Bool) (a:Act) (w:World),
     (∀j oj,ops[j]? =some oj→j≠i→listed.getD j true=false→(∀e∈oj.after,Region.binds md e=true→e.on≠i)→oi.apart ops oj=true)→
     i∈Region.ready md ops listed→YieldsIf P ops S oi v a→S w→
     wpAnyM P md ops Q S fuel (listed.setIfInBounds i true) (a.put oi.dst v) w→wpAnyM P md ops Q S (fuel+1) listed a w:=by
 intro fuel
 induction fuel with
 | zero=>
  intro listed a w _ hr hy hS H;refine⟨fun h=>(by rw[h] at hr;cases hr),fun j hj=> ?_⟩;by_cases hji:j=i
  · subst hji;exact hy.wpOp hi hS ⟨.inr hS,H⟩
  · have:=ready_mono hj hji;rw[H.1] at this
    cases this
 | succ fuel ih=>
  intro listed a w hfree hr hy hS H;refine⟨fun h=>(by rw[h] at hr;cases hr),fun j hj=> ?_⟩;by_cases hji:j=i
  · subst hji;exact hy.wpOp hi hS ⟨.inr hS,H⟩
  · have hl:=not_last hr hj hji;have h1:=wpOp_mono (K':=fun a' w'=>S w'∧wpAnyM P md ops Q S fuel ((listed.setIfInBounds i true).setIfInBounds j true) a' w') (fun a' w' h'=>⟨h'.1.resolve_left (by rw[hl];simp),h'.2⟩) (H.2 j (ready_mono hj hji));obtain⟨hjun,oj,hoj,hall⟩:=mem_ready.1 hj;have hnot:∀e∈oj.after,Region.binds md e=true→e.on≠i:=fun e he hb heq=>by
     have h1:=hall e he hb;have h0:=(mem_ready.1 hr).1;rw[heq] at h1;rcases Nat.lt_or_ge i listed.size with h' | h'
     · simp[h'] at h0 h1;rw[h0] at h1;cases h1
     · simp[Array.getElem?_eq_none h'] at h1
    have h2:=wpOp_putIf hoj (hfree j oj hoj hji hjun hnot) (fun cs b=>hsel i oi cs b hi) (fun cs b=>hsel j oj cs b hoj) hQ hy h1;refine wpOp_mono (fun a' w' h3=>⟨.inr h3.2.1,ih (listed.setIfInBounds j true) a' w' (fun k ok hk hki hun hno=>hfree k ok hk hki ?_ hno) (ready_mono hr (Ne.symm hji)) h3.1 h3.2.1 ?_⟩) h2
    · by_cases hjk:j=k
      · subst hjk;exact hjun
      · rw[getD_set_ne true hjk] at hun;exact hun
    · rw[Array.setIfInBounds_comm _ _ hji];exact h3.2.2
theorem wpAnyM_narrow {S' : World → Prop} (hS : ∀ w, S' w → S w) :
    ∀(fuel:Nat) (listed:Array Bool) (a:Act) (w:World),wpAnyM P md ops Q S' fuel listed a w→wpAnyM P md ops Q S fuel listed a w
 | 0,_,_,_,h=>h
 | fuel+1,_,_,_,h=>⟨h.1,fun i hi=>wpOp_mono (fun a' w' h'=>⟨h'.1.imp id (hS _),wpAnyM_narrow hS fuel _ a' w' h'.2⟩) (h.2 i hi)⟩
theorem reg_start {id : Nat} {a : Act} {w : World} (F : World → Prop) (hm : P.follows .mixedOrders = true) (hF : F w.drew)
    (h:∀w1,F w1→wpAnyM P .any ops Q F ops.size (Array.replicate ops.size false) a w1):(Code.region id ops true).wp P Q a w:=
 wp_region_any hm (wpAny_of_M _ _ _ _ (h _ hF))
theorem takeM {fuel : Nat} {listed : Array Bool} {a : Act} {w : World} {oi : Oper} {d : Option Tmp} {v : Value}
    (i:Nat) (hi:ops[i]? =some oi) (hd:oi.dst=d) (hS:S w) (hy:∀w,S w→(execOp a.eval oi).run P w=.ok (.value v) w) (h:wpAnyM P md ops Q S fuel (listed.setIfInBounds i true) (a.put d v) w)
    (hs:Region.noSelect ops=true:=by kernel_rfl) (hf:Region.free md ops listed i=true:=by kernel_rfl) (hr:(Region.ready md ops listed).contains i=true:=by kernel_rfl)
    (hQ:∀c a w,Q (.panic c) (a.put oi.dst v) w→Q (.panic c) a w:=by exact fun _ _ _ h=>h) (hw:Region.wanted oi (yielded ops a.tmps)=true:=by rfl):wpAnyM P md ops Q S (fuel+1) listed a w:=by
 subst hd;exact wpAnyM_first hi (Region.noSelect_spec hs) hQ fuel listed a w (Region.free_spec hi hf) (by simpa using hr) (.inl ⟨hw,hy⟩) hS h
theorem skipM {fuel : Nat} {listed : Array Bool} {a : Act} {w : World} {oi : Oper} {d : Option Tmp}
    (i:Nat) (hi:ops[i]? =some oi) (hd:oi.dst=d) (hS:S w) (h:wpAnyM P md ops Q S fuel (listed.setIfInBounds i true) (a.put d undef) w)
    (hs:Region.noSelect ops=true:=by kernel_rfl) (hf:Region.free md ops listed i=true:=by kernel_rfl) (hr:(Region.ready md ops listed).contains i=true:=by kernel_rfl)
    (hQ:∀c a w,Q (.panic c) (a.put oi.dst undef) w→Q (.panic c) a w:=by exact fun _ _ _ h=>h) (hw:Region.wanted oi (yielded ops a.tmps)=false:=by rfl):wpAnyM P md ops Q S (fuel+1) listed a w:=by
 subst hd;exact wpAnyM_first hi (Region.noSelect_spec hs) hQ fuel listed a w (Region.free_spec hi hf) (by simpa using hr) (.inr ⟨hw,rfl⟩) hS h
theorem doneM {listed:Array Bool} {a:Act} {w:World} (hr:Region.ready md ops listed=[]) (h:Q .normal a w):∀fuel,wpAnyM P md ops Q S fuel listed a w
 | 0=>⟨hr,h⟩
 | _+1=>⟨fun _=>h,by rw[hr];simp⟩
theorem allM {rs : List Nat} {fuel : Nat} {listed : Array Bool} {a : Act} {w : World} (hr : Region.ready md ops listed = rs) (hne : rs ≠ [])
    (h:∀i∈rs,wpOp P ops Q i (fun a' w'=>(lastOp md ops i=true∨S w')∧wpAnyM P md ops Q S fuel (listed.setIfInBounds i true) a' w') a w):wpAnyM P md ops Q S (fuel+1) listed a w:=
 ⟨fun h0=>absurd (hr▸h0) hne,hr▸h⟩
def Nxt (P:Program) (md:Region.Mode) (ops:Array Oper) (Q:Exit→Act→World→Prop) (S:World→Prop) (fuel:Nat) (listed:Array Bool) (i:Nat) (a:Act) (w:World):Prop:=
 ∃F:World→Prop,(∀w,F w→S w)∧F w∧(F w→wpAnyM P md ops Q F fuel (listed.setIfInBounds i true) a w)
theorem Nxt.go {fuel:Nat} {listed:Array Bool} {i:Nat} {a:Act} {w:World} (h:Nxt P md ops Q S fuel listed i a w):(lastOp md ops i=true∨S w)∧wpAnyM P md ops Q S fuel (listed.setIfInBounds i true) a w:=by
 obtain⟨F,h1,h2,h3⟩:=h;exact⟨.inr (h1 _ h2),wpAnyM_narrow h1 _ _ _ _ (h3 h2)⟩
theorem one_M {fuel : Nat} {listed : Array Bool} {a : Act} {w : World} (i : Nat) (hr : Region.ready md ops listed = [i])
    (h:wpOp P ops Q i (Nxt P md ops Q S fuel listed i) a w):wpAnyM P md ops Q S (fuel+1) listed a w:=
 allM hr (by simp) (fun k hk=>by
   obtain rfl:k=i:=by simpa using hk
   exact wpOp_mono (fun _ _ h=>h.go) h)
theorem ret_S {fuel : Nat} {listed : Array Bool} {i : Nat} {a : Act} {w : World} {d : Option Tmp} {v0 : Value} (hS : S w)
    (h:S w→wpAnyM P md ops Q S fuel (listed.setIfInBounds i true) (a.put d v0) w):∃v,Ending.returned v0=.returned v∧Nxt P md ops Q S fuel listed i (a.put d v) w:=
 ⟨v0,rfl,S,fun _ h=>h,hS,h⟩
theorem last_S {fuel : Nat} {listed : Array Bool} {a : Act} {w : World} {oi : Oper} (i : Nat) (w1 : World) (hi : ops[i]? = some oi) (hd : oi.dst = none) (hrun : (execOp a.eval oi).run P w = .ok .skip w1) (h : Q .normal a w1)
    (hw:Region.wanted oi (yielded ops a.tmps)=true:=by rfl) (hl:lastOp md ops i=true:=by kernel_rfl) (hr:Region.ready md ops listed=[i]:=by kernel_rfl)
    (hr2:Region.ready md ops (listed.setIfInBounds i true)=[]:=by kernel_rfl):wpAnyM P md ops Q S (fuel+1) listed a w:=
 allM hr (by simp) (fun k hk=>by
   obtain rfl:k=i:=by simpa using hk
   refine wpOp_step hi (fun K' hK=> ?_);rw[if_pos hw];unfold Oper.wp;rw[hrun];refine hK _ _ ⟨.inl hl,doneM hr2 ?_ _⟩;rw[hd];exact h)
end
theorem row_be {w w':World} {B:Nat} {e:TypeId} {size:Nat} {v:Value} {n:Nat} {xs:List Value} (h:w.ownsRow B e size v n xs) (hb:Below w.heap.size w w'):w'.ownsRow B e size v n xs:=row_heap h (fun k hk=>hb.block k (h.lt k hk).2)
theorem row_al {w:World} {B:Nat} {e:TypeId} {size:Nat} {v:Value} {n:Nat} {xs:List Value} (h:w.ownsRow B e size v n xs) (o:Obj):(w.alloc o).ownsRow B e size v n xs:=row_be h ((Below.refl _ _).alloc (Nat.le_refl _) o)
theorem row_dr {w:World} {B:Nat} {e:TypeId} {size:Nat} {v:Value} {n:Nat} {xs:List Value} (h:w.ownsRow B e size v n xs):w.drew.ownsRow B e size v n xs:=row_be h (Below.refl _ _).drew
theorem row_st {w:World} {B:Nat} {e:TypeId} {size:Nat} {v:Value} {n:Nat} {xs:List Value} (h:w.ownsRow B e size v n xs) {p:Addr} (hp:p.block<B) (u:Value):(w.setCell p u).ownsRow B e size v n xs:=
 row_heap h (fun k hk=>Below.heap_setCell _ _ _ _ (by have:=(h.lt k hk).1;omega))
theorem bel_alloc {w w':World} (h:Below w.heap.size w w') (o:Obj):Below w.heap.size w (w'.alloc o):=h.alloc h.size o
theorem bel_drew {w w':World} (h:Below w.heap.size w w'):Below w.heap.size w w'.drew:=h.drew
theorem bel_set {w w':World} (h:Below w.heap.size w w') {p:Addr} (hp:w.heap.size≤p.block) (v:Value):Below w.heap.size w (w'.setCell p v):=h.setCell hp v
section
variable {P:Program} {ops:Array Oper} {Q:Exit→Act→World→Prop} {md:Region.Mode} {S:World→Prop}
theorem new_T {fuel : Nat} {listed : Array Bool} {a : Act} {w : World} {oi : Oper} {d : Option Tmp} (i : Nat) (v : Value) (C : Array Value) (T : TypeId) (hi : ops[i]? = some oi) (hd : oi.dst = d) (hrun : (execOp a.eval oi).run P w = .ok (.value v) (w.alloc (.cells C T))) (hS : S (w.alloc (.cells C T)))
    (h:∀w2,S w2∧(Blk w2 w.heap.size C∧w2.heap[w.heap.size]? =some (.cells C T (0,0)))∧Below w.heap.size w w2→wpAnyM P md ops Q (fun w'=>S w'∧(Blk w' w.heap.size C∧w'.heap[w.heap.size]? =some (.cells C T (0,0)))∧Below w.heap.size w w') fuel (listed.setIfInBounds i true) (a.put d v) w2)
    (hw:Region.wanted oi (yielded ops a.tmps)=true:=by rfl):wpOp P ops Q i (Nxt P md ops Q S fuel listed i) a w:=
 wpOp_alone i v _ hi hd hw hrun (show Nxt P md ops Q S fuel listed i (a.put d v) (w.alloc (.cells C T)) from⟨fun w'=>S w'∧(Blk w' w.heap.size C∧w'.heap[w.heap.size]? =some (.cells C T (0,0)))∧Below w.heap.size w w',fun _ h=>h.1,⟨hS,⟨Blk.fresh _ _ _ _ rfl,heap_alloc_new _ _⟩,(Below.refl _ _).alloc (Nat.le_refl _) _⟩,fun h1=>h _ h1⟩)
theorem last_row {fuel : Nat} {listed : Array Bool} {a : Act} {w : World} {oi : Oper} (i : Nat) (ty : TypeId) (x y : Operand) (hi : ops[i]? = some oi) (hd : oi.dst = none) (ho : oi.op = .store ty x y) (g : Nat) (cells old : Array Value) (t : TypeId)
    (hg:w.heap[g]? =some (.cells old t (0,0))) (hx:a.eval x=.pointer (some ⟨g,0,none⟩)) (hy:a.eval y=.agg cells) (hinf:(P.info? ty).map (·.size)=some cells.size) (hold:old.size=cells.size) (h1:cells.all (·.oneCell')=true)
    (h:∀w2,Blk w2 g cells→w.grownBy w2 (some g)→Q .normal a w2)
    (hw:Region.wanted oi (yielded ops a.tmps)=true:=by rfl) (hl:lastOp md ops i=true:=by kernel_rfl) (hr:Region.ready md ops listed=[i]:=by kernel_rfl)
    (hr2:Region.ready md ops (listed.setIfInBounds i true)=[]:=by kernel_rfl):wpAnyM P md ops Q S (fuel+1) listed a w:=
 allM hr (by simp) (fun k hk=>by
   obtain rfl:k=i:=by simpa using hk
   refine wpOp_step hi (fun K' hK=> ?_);rw[if_pos hw];refine wp_store_row ty x y ho g cells hx hy t old hg hinf hold h1 ?_;refine hK _ _ ⟨.inl hl,doneM hr2 ?_ _⟩;rw[hd];exact h _ (row_end hg).1 (row_end hg).2)
theorem reg_start2 {id : Nat} {a : Act} {w : World} (F E : World → Prop) (hm : P.follows .mixedOrders = true) (hF : F w.drew) (hE : E w.drew)
    (h:∀w1,F w1→E w1→wpAnyM P .any ops Q F ops.size (Array.replicate ops.size false) a w1):(Code.region id ops true).wp P Q a w:=
 wp_region_any hm (wpAny_of_M _ _ _ _ (h _ hF hE))
theorem row_M {fuel : Nat} {listed : Array Bool} {a : Act} {w : World} {oi : Oper} (i : Nat) (ty : TypeId) (x y : Operand) (hi : ops[i]? = some oi) (hd : oi.dst = none) (ho : oi.op = .store ty x y) (g : Nat) (cells old : Array Value) (t : TypeId)
    (hg:w.heap[g]? =some (.cells old t (0,0))) (hx:a.eval x=.pointer (some ⟨g,0,none⟩)) (hy:a.eval y=.agg cells) (hinf:(P.info? ty).map (·.size)=some cells.size) (hold:old.size=cells.size) (h1:cells.all (·.oneCell')=true)
    (h:∀w2,Blk w2 g cells→w.grownBy w2 (some g)→S w2∧(S w2→wpAnyM P md ops Q S fuel (listed.setIfInBounds i true) a w2))
    (hw:Region.wanted oi (yielded ops a.tmps)=true:=by rfl):wpOp P ops Q i (Nxt P md ops Q S fuel listed i) a w:=by
 refine wpOp_step hi (fun K' hK=> ?_);rw[if_pos hw];refine wp_store_row ty x y ho g cells hx hy t old hg hinf hold h1 ?_;obtain⟨h2,h3⟩:=h _ (row_end hg).1 (row_end hg).2;refine hK _ _ ⟨S,fun _ h=>h,h2,fun h4=> ?_⟩;rw[hd];exact h3 h4
end
theorem row_go {P : Program} {ops : Array Oper} {rest : List Oper} {o : Oper} {a : Act} {w : World} {Q : Exit → Act → World → Prop} (ty : TypeId) (x y : Operand) (hgd : o.guard = none) (ho : o.op = .store ty x y) (g : Nat) (cells old : Array Value) (t : TypeId)
    (hg:w.heap[g]? =some (.cells old t (0,0))) (hx:a.eval x=.pointer (some ⟨g,0,none⟩)) (hy:a.eval y=.agg cells) (hi:(P.info? ty).map (·.size)=some cells.size) (hold:old.size=cells.size) (h1:cells.all (·.oneCell')=true)
    (h:∀w2,Blk w2 g cells→w.grownBy w2 (some g)→wpList P ops Q rest (a.put o.dst undef) w2):wpList P ops Q (o::rest) a w:=
 wpList_store_row hgd ty x y ho g cells hx hy t old hg hi hold h1 (h _ (row_end hg).1 (row_end hg).2)
theorem hp_new {w:World} {C:Array Value} {T:TypeId} (n:Nat) (hn:n=w.heap.size):(w.alloc (.cells C T)).heap[n]? =some (.cells C T (0,0)):=by subst hn;exact heap_alloc_new _ _
theorem hp_al {w:World} {b:Nat} {o:Obj} (h:w.heap[b]? =some o) (x:Obj):(w.alloc x).heap[b]? =some o:=(((Below.refl _ _).alloc (Nat.le_refl _) x).block _ (Array.getElem?_eq_some_iff.1 h).1).trans h
theorem hp_dr {w:World} {b:Nat} {o:Obj} (h:w.heap[b]? =some o):w.drew.heap[b]? =some o:=h
theorem hp_st {w:World} {b:Nat} {o:Obj} (h:w.heap[b]? =some o) {p:Addr} (hp:p.block≠b) (v:Value):(w.setCell p v).heap[b]? =some o:=(Below.heap_setCell _ _ _ _ (fun e=>hp e.symm)).trans h
theorem hp_gr {w w':World} {b g:Nat} {o:Obj} (h:w.heap[b]? =some o) (hg:w.grownBy w' (some g)) (hne:g≠b):w'.heap[b]? =some o:=(hg.block _ (Array.getElem?_eq_some_iff.1 h).1 (fun e=>hne (by injection e with e;exact e.symm))).trans h
theorem Blk.gr {w w':World} {b g:Nat} {C:Array Value} (h:Blk w b C) (hg:w.grownBy w' (some g)) (hne:g≠b):Blk w' b C:=h.same hg.size (hg.block _ h.lt (fun e=>hne (by injection e with e;exact e.symm)))
theorem bel_gr {w w1 w2:World} {g:Nat} (h:Below w.heap.size w w1) (hg:w1.grownBy w2 (some g)) (hn:w.heap.size≤g):Below w.heap.size w w2:=h.grown hg h.size (fun k hk=>by injection hk with hk;omega)
theorem hp_be {w w':World} {b:Nat} {o:Obj} (h:w.heap[b]? =some o) (hb:Below w.heap.size w w'):w'.heap[b]? =some o:=(hb.block _ (Array.getElem?_eq_some_iff.1 h).1).trans h
section
variable {P:Program} {ops:Array Oper} {Q:Exit→Act→World→Prop} {md:Region.Mode} {S:World→Prop} {ex:Nat→Bool}
def wpAnyX (P:Program) (md:Region.Mode) (ops:Array Oper) (Q:Exit→Act→World→Prop) (ex:Nat→Bool) (S:World→Prop):Nat→Array Bool→Act→World→Prop
 | 0,listed,a,w=>Region.ready md ops listed=[]∧Q .normal a w
 | fuel+1,listed,a,w=>
  (Region.ready md ops listed=[]→Q .normal a w)∧
  ∀i∈Region.ready md ops listed,wpOp P ops Q i (fun a' w'=>(ex i=true∨S w')∧wpAnyX P md ops Q ex S fuel (listed.setIfInBounds i true) a' w') a w
theorem wpAny_of_X:∀(fuel:Nat) (listed:Array Bool) (a:Act) (w:World),wpAnyX P md ops Q ex S fuel listed a w→wpAny P md ops Q fuel listed a w
 | 0,_,_,_,h=>h
 | fuel+1,_,_,_,h=>⟨h.1,fun i hi=>wpOp_mono (fun a' w' h'=>wpAny_of_X fuel _ a' w' h'.2) (h.2 i hi)⟩
def waitsX (md:Region.Mode) (ops:Array Oper) (ex:Nat→Bool) (i:Nat):Bool:=(List.range ops.size).all fun j=> !ex j || match ops[j]? with
 | none=>true
 | some oj=>oj.after.any (fun e=>Region.binds md e && e.on==i)
theorem wpAnyX_first {i : Nat} {oi : Oper} {v : Value} (hi : ops[i]? = some oi) (hwx : waitsX md ops ex i = true) (hsel : ∀ (j : Nat) (o : Oper) cs b, ops[j]? = some o → o.op ≠ .select cs b)
    (hQ:∀c a w,Q (.panic c) (a.put oi.dst v) w→Q (.panic c) a w):
    ∀(fuel:Nat) (listed:Array Bool) (a:Act) (w:World),
     (∀j oj,ops[j]? =some oj→j≠i→listed.getD j true=false→(∀e∈oj.after,Region.binds md e=true→e.on≠i)→oi.apart ops oj=true)→
     i∈Region.ready md ops listed→YieldsIf P ops S oi v a→S w→
     wpAnyX P md ops Q ex S fuel (listed.setIfInBounds i true) (a.put oi.dst v) w→wpAnyX P md ops Q ex S (fuel+1) listed a w:=by
 intro fuel
 induction fuel with
 | zero=>
  intro listed a w _ hr hy hS H;refine⟨fun h=>(by rw[h] at hr;cases hr),fun j hj=> ?_⟩;by_cases hji:j=i
  · subst hji;exact hy.wpOp hi hS ⟨.inr hS,H⟩
  · have:=ready_mono hj hji;rw[H.1] at this
    cases this
 | succ fuel ih=>
  intro listed a w hfree hr hy hS H;refine⟨fun h=>(by rw[h] at hr;cases hr),fun j hj=> ?_⟩;by_cases hji:j=i
  · subst hji;exact hy.wpOp hi hS ⟨.inr hS,H⟩
  · obtain⟨hjun,oj,hoj,hall⟩:=mem_ready.1 hj;have hnot:∀e∈oj.after,Region.binds md e=true→e.on≠i:=fun e he hb heq=>by
     have h1:=hall e he hb;have h0:=(mem_ready.1 hr).1;rw[heq] at h1;rcases Nat.lt_or_ge i listed.size with h' | h'
     · simp[h'] at h0 h1;rw[h0] at h1;cases h1
     · simp[Array.getElem?_eq_none h'] at h1
    have hl:ex j=false:=by
     cases hx:ex j with
     | false=>rfl
     | true=>
      have h1:=List.all_eq_true.1 hwx j (List.mem_range.2 (Array.getElem?_eq_some_iff.1 hoj).1);rw[hx,hoj] at h1;simp only[Bool.not_true,Bool.false_or] at h1;obtain⟨e,he,hb⟩:=Array.any_eq_true'.1 h1;simp only[Bool.and_eq_true,beq_iff_eq] at hb;exact absurd hb.2 (hnot e he hb.1)
    have h1:=wpOp_mono (K':=fun a' w'=>S w'∧wpAnyX P md ops Q ex S fuel ((listed.setIfInBounds i true).setIfInBounds j true) a' w') (fun a' w' h'=>⟨h'.1.resolve_left (by rw[hl];simp),h'.2⟩) (H.2 j (ready_mono hj hji));have h2:=wpOp_putIf hoj (hfree j oj hoj hji hjun hnot) (fun cs b=>hsel i oi cs b hi) (fun cs b=>hsel j oj cs b hoj) hQ hy h1
    refine wpOp_mono (fun a' w' h3=>⟨.inr h3.2.1,ih (listed.setIfInBounds j true) a' w' (fun k ok hk hki hun hno=>hfree k ok hk hki ?_ hno) (ready_mono hr (Ne.symm hji)) h3.1 h3.2.1 ?_⟩) h2
    · by_cases hjk:j=k
      · subst hjk;exact hjun
      · rw[getD_set_ne true hjk] at hun;exact hun
    · rw[Array.setIfInBounds_comm _ _ hji];exact h3.2.2
theorem takeX {fuel : Nat} {listed : Array Bool} {a : Act} {w : World} {oi : Oper} {d : Option Tmp} {v : Value}
    (i:Nat) (hi:ops[i]? =some oi) (hd:oi.dst=d) (hS:S w) (hy:∀w,S w→(execOp a.eval oi).run P w=.ok (.value v) w) (h:wpAnyX P md ops Q ex S fuel (listed.setIfInBounds i true) (a.put d v) w)
    (hs:Region.noSelect ops=true:=by kernel_rfl) (hf:Region.free md ops listed i=true:=by kernel_rfl) (hr:(Region.ready md ops listed).contains i=true:=by kernel_rfl) (hwx:waitsX md ops ex i=true:=by kernel_rfl)
    (hQ:∀c a w,Q (.panic c) (a.put oi.dst v) w→Q (.panic c) a w:=by exact fun _ _ _ h=>h) (hw:Region.wanted oi (yielded ops a.tmps)=true:=by rfl):wpAnyX P md ops Q ex S (fuel+1) listed a w:=by
 subst hd;exact wpAnyX_first hi hwx (Region.noSelect_spec hs) hQ fuel listed a w (Region.free_spec hi hf) (by simpa using hr) (.inl ⟨hw,hy⟩) hS h
theorem doneX {listed:Array Bool} {a:Act} {w:World} (hr:Region.ready md ops listed=[]) (h:Q .normal a w):∀fuel,wpAnyX P md ops Q ex S fuel listed a w
 | 0=>⟨hr,h⟩
 | _+1=>⟨fun _=>h,by rw[hr];simp⟩
theorem one_X {fuel : Nat} {listed : Array Bool} {a : Act} {w : World} (i : Nat) (hr : Region.ready md ops listed = [i])
    (h:wpOp P ops Q i (fun a' w'=>(ex i=true∨S w')∧wpAnyX P md ops Q ex S fuel (listed.setIfInBounds i true) a' w') a w):wpAnyX P md ops Q ex S (fuel+1) listed a w:=
 ⟨fun h0=>absurd (hr▸h0) (by simp),fun k hk=>by
   rw[hr] at hk;obtain rfl:k=i:=by simpa using hk
   exact h⟩
theorem pure_X {fuel : Nat} {listed : Array Bool} {a : Act} {w : World} {oi : Oper} {d : Option Tmp} {v : Value} (i : Nat) (hi : ops[i]? = some oi) (hd : oi.dst = d) (hS : S w) (hrun : (execOp a.eval oi).run P w = .ok (.value v) w)
    (h:wpAnyX P md ops Q ex S fuel (listed.setIfInBounds i true) (a.put d v) w) (hr:Region.ready md ops listed=[i]:=by kernel_rfl) (hw:Region.wanted oi (yielded ops a.tmps)=true:=by rfl):wpAnyX P md ops Q ex S (fuel+1) listed a w:=
 one_X i hr (wpOp_alone i v _ hi hd hw hrun (show _ from⟨.inr hS,h⟩))
theorem new_X {fuel : Nat} {listed : Array Bool} {a : Act} {w : World} {oi : Oper} {d : Option Tmp} (i : Nat) (v : Value) (C : Array Value) (T : TypeId) (hi : ops[i]? = some oi) (hd : oi.dst = d) (hrun : (execOp a.eval oi).run P w = .ok (.value v) (w.alloc (.cells C T))) (hS : S (w.alloc (.cells C T)))
    (h:S (w.alloc (.cells C T))→Blk (w.alloc (.cells C T)) w.heap.size C→wpAnyX P md ops Q ex S fuel (listed.setIfInBounds i true) (a.put d v) (w.alloc (.cells C T))) (hr:Region.ready md ops listed=[i]:=by kernel_rfl)
    (hw:Region.wanted oi (yielded ops a.tmps)=true:=by rfl):wpAnyX P md ops Q ex S (fuel+1) listed a w:=
 one_X i hr (wpOp_alone i v _ hi hd hw hrun (show _ from⟨.inr hS,h hS (Blk.fresh _ _ _ _ rfl)⟩))
theorem set_X {fuel : Nat} {listed : Array Bool} {a : Act} {w : World} {oi : Oper} (i : Nat) (w1 : World) (hi : ops[i]? = some oi) (hd : oi.dst = none) (hrun : (execOp a.eval oi).run P w = .ok .skip w1) (hS : ex i = true ∨ S w1) (h : wpAnyX P md ops Q ex S fuel (listed.setIfInBounds i true) a w1)
    (hr:Region.ready md ops listed=[i]:=by kernel_rfl) (hw:Region.wanted oi (yielded ops a.tmps)=true:=by rfl):wpAnyX P md ops Q ex S (fuel+1) listed a w:=
 one_X i hr (by
   refine wpOp_step hi (fun K' hK=> ?_);rw[if_pos hw];unfold Oper.wp;rw[hrun];refine hK _ _ ⟨hS,?_⟩;rw[hd];exact h)
end
section
variable {P:Program} {ops:Array Oper} {Q:Exit→Act→World→Prop} {l n:Nat}
end
theorem noPanic {Q:Exit→Act→World→Prop} {d:Option Tmp} {v:Value}:∀(c:List PanicEntry) (a:Act) (w:World),(Exit.panic c=.normal∧Q (.panic c) (a.put d v) w)→(Exit.panic c=.normal∧Q (.panic c) a w):=fun _ _ _ h=>(by cases h.1)
theorem app_X {Q : Exit → Act → World → Prop} {ops : Array Oper} {md : Region.Mode} {ex : Nat → Bool} {S : World → Prop} {fuel : Nat} {listed : Array Bool} {a : Act} {w : World} {oi : Oper} {d : Option Tmp} (i : Nat) (hi : ops[i]? = some oi) (hd : oi.dst = d) (hgd : oi.guard = none) (s x : Operand) (t : TypeId)
    (ho:oi.op=.call {callee:=.builtin .append,args:= #[s,x],argTypes:= #[t,t]})
    (base:Nat) (e:TypeId) (inf:TypeInfo) (z:Value) (size bytes:Nat) (ht:Tryz.prog.underlying t=some (.slice e)) (hinf:Tryz.prog.info? e=some inf) (hz:inf.zero=some z)
    (hsize:inf.size=size) (hby:inf.bytes=bytes) (hzs:z.cells.size=size) (hsz:0<size)
    (v:Value) (n:Nat) (xs:List Value) (hs:a.eval s=v) (hown:w.ownsRow base e size v n xs)
    (ad:Addr) (m c:Nat) (news:List Value) (hx:a.eval x=.slice (some ad) m c) (hl:news.length=m*size) (hnews:∀j u,news[j]? =some u→w.cell? (ad.add j)=some u) (h1:∀u∈news,u.oneCell'=true)
    (h63:n+m≤maxLen) (hbytes:(n+m)*bytes≤140737488355328) (hbase:base≤w.heap.size)
    (h:∀v' w',w'.ownsRow base e size v' (n+m) (xs ++news)→w.grownBy w' v.ownBlock→(v'.ownBlock=v.ownBlock∨v'.ownBlock=some w.heap.size)→(ex i=true∨S w')∧wpAnyX Tryz.prog md ops Q ex S fuel (listed.setIfInBounds i true) (a.put d v') w')
    (hr:Region.ready md ops listed=[i]:=by kernel_rfl):wpAnyX Tryz.prog md ops Q ex S (fuel+1) listed a w:=by
 subst hd;refine one_X i hr (wpOp_step hi (fun K' hK=> ?_));refine step_app hgd s x t ho base e inf z size bytes ht hinf hz hsize hby hzs hsz v n xs hs hown ad m c news hx hl hnews h1 h63 hbytes hbase ?_;intro v' w' h2 h3 h4;exact hK _ _ (h v' w' h2 h3 h4)
theorem reg_startZ {P : Program} {ops : Array Oper} {Q : Exit → Act → World → Prop} {id : Nat} {a : Act} {w : World} (F E : World → Prop) (hm : P.follows .mixedOrders = true) (hF : F w.drew) (hE : E w.drew) (ex : Nat → Bool)
    (h:∀w1,F w1→E w1→wpAnyX P .any ops Q ex F ops.size (Array.replicate ops.size false) a w1):(Code.region id ops true).wp P Q a w:=wp_region_any hm (wpAny_of_X _ _ _ _ (h _ hF hE))
def KeepZ (o:Option Nat) (w w':World):Prop:=w.heap.size≤w'.heap.size∧∀k,k<w.heap.size→o≠some k→w'.heap[k]? =w.heap[k]?
theorem KeepZ.alloc {o:Option Nat} {w w':World} (h:KeepZ o w w') (x:Obj):KeepZ o w (w'.alloc x):=⟨Nat.le_trans h.1 (by simp),fun k hk hn=>(((Below.refl _ _).alloc (Nat.le_refl _) x).block k (Nat.lt_of_lt_of_le hk h.1)).trans (h.2 k hk hn)⟩
theorem KeepZ.grown {o:Option Nat} {w w1 w2:World} (h:KeepZ o w w1) (hg:w1.grownBy w2 o):KeepZ o w w2:=⟨Nat.le_trans h.1 hg.size,fun k hk hn=>(hg.block k (Nat.lt_of_lt_of_le hk h.1) (fun e=>hn e.symm)).trans (h.2 k hk hn)⟩
theorem KeepZ.row {o:Option Nat} {w w':World} {B:Nat} {e:TypeId} {size:Nat} {v:Value} {n:Nat} {xs:List Value} (h:KeepZ o w w') (hr:w.ownsRow B e size v n xs) (hn:∀k,v.ownBlock=some k→o≠some k):w'.ownsRow B e size v n xs:=row_heap hr (fun k hk=>h.2 k (hr.lt k hk).2 (hn k hk))
theorem call_Z {P : Program} {ops : Array Oper} {Q : Exit → Act → World → Prop} {md : Region.Mode} {S : World → Prop} {ex : Nat → Bool} {fuel : Nat} {listed : Array Bool} {a : Act} {w : World} {oi : Oper} {d : Option Tmp} (i : Nat) (f : Nat) (argsO : Array Operand) (ts : Array TypeId) (args : List Value) (hi : ops[i]? = some oi) (hd : oi.dst = d)
    (hop:oi.op=Op.call {callee:=Callee.value (Operand.func f),args:=argsO,argTypes:=ts}) (he:Enters P f) (hw:Region.wanted oi (yielded ops a.tmps)=true) (hargs:argsO.toList.map a.eval=args)
    (h:Calls P f args.toArray w (fun e w'=>∃v,e=.returned v∧(ex i=true∨S w')∧wpAnyX P md ops Q ex S fuel (listed.setIfInBounds i true) (a.put d v) w'))
    (hr:Region.ready md ops listed=[i]:=by kernel_rfl):wpAnyX P md ops Q ex S (fuel+1) listed a w:=
 one_X i hr (wpOp_call i f argsO ts args hi hd hop he hw hargs h)
theorem wpList_append_rows {w : World} {ops : Array Oper} {rest : List Oper} {o : Oper} {a : Act} {Q : Exit → Act → World → Prop} (hgd : o.guard = none) (s x : Operand) (t : TypeId)
    (ho:o.op=.call {callee:=.builtin .append,args:= #[s,x],argTypes:= #[t,t]})
    (base:Nat) (e:TypeId) (i:TypeInfo) (z:Value) (size bytes:Nat) (ht:Tryz.prog.underlying t=some (.slice e)) (hi:Tryz.prog.info? e=some i) (hz:i.zero=some z)
    (hsize:i.size=size) (hby:i.bytes=bytes) (hzs:z.cells.size=size) (hsz:0<size)
    (v:Value) (n:Nat) (xs:List Value) (hs:a.eval s=v) (hown:w.ownsRow base e size v n xs)
    (B2:Nat) (vx:Value) (m:Nat) (ys:List Value) (hx:a.eval x=vx) (hown2:w.ownsRow B2 e size vx m ys) (h1:∀u∈ys,u.oneCell'=true)
    (h63:n+m≤maxLen) (hbytes:(n+m)*bytes≤140737488355328) (hbase:base≤w.heap.size)
    (h:∀v' w',w'.ownsRow base e size v' (n+m) (xs ++ys)→w.grownBy w' v.ownBlock→(v'.ownBlock=v.ownBlock∨v'.ownBlock=some w.heap.size)→wpList Tryz.prog ops Q rest (a.put o.dst v') w'):wpList Tryz.prog ops Q (o::rest) a w:=by
 rcases hown2.2 with⟨hv,hm⟩ | ⟨g,cap,cur,hv,hg1,hg2,hle,hcap,hcs,htk⟩
 · subst hv hm;have hy:ys=[]:=List.length_eq_zero_iff.1 (by have:=hown2.1;omega);subst hy;refine wpList_append_own_none hgd s x t ho base e i size ht hi v n xs hs hown hx ?_;exact h v w (by rw[List.append_nil];exact hown) ⟨rfl,rfl,rfl,Nat.le_refl _,fun _ _ _=>rfl⟩ (.inl rfl)
 · subst hv;refine wpList_append_own_at w hgd s x t ho base e i z size bytes ht hi hz hsize hby hzs hsz v n xs hs hown ⟨g,0,none⟩ m cap ys hx hown2.1 (fun j u hu=> ?_) h1 h63 hbytes hbase (fun v' w' a1 a2 _ a4=>h v' w' a1 a2 a4);have hadd:((⟨g,0,none⟩:Addr).add j)=⟨g,j,none⟩:=by unfold Addr.add;split<;>simp_all
   rw[hadd];simp only[World.cell?,hg2];rw[←htk] at hu;have hj:=(List.getElem?_eq_some_iff.1 hu).1;rw[List.getElem?_take] at hu;split at hu
   · simpa using hu
   · cases hu
theorem blk_hp {w:World} {b:Nat} {C:Array Value} {T:TypeId} (h:w.heap[b]? =some (.cells C T (0,0))):Blk w b C:=⟨(Array.getElem?_eq_some_iff.1 h).1,fun i=>by simp[World.cell?,h],fun i=>by simp[World.frozen?,h]⟩
end Go.Proofs.YtbepkpjcjpmpmaaGreatDoor
