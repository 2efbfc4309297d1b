/- StoN, StoB -/
import Derived.Test.YtlkajejbfojkeaaGreatDoorKStepToStoR
set_option linter.unusedSimpArgs false
set_option linter.unusedVariables false
set_option maxRecDepth 100000
set_option maxHeartbeats 16000000
namespace Go.Proofs.YtlkajejbfojkeaaGreatDoor
open Go.RowKit
theorem foot_nodup {L:SLoc}:L.foot.Nodup↔L.av.ownBlock≠some L.sb∧L.pv.ownBlock≠some L.sb∧L.sb∉blocks L.ab∧(blocks L.ab).Nodup∧(∀k,L.av.ownBlock=some k→L.pv.ownBlock≠some k∧k∉blocks L.ab)∧(∀k,L.pv.ownBlock=some k→k∉blocks L.ab):=by
 unfold SLoc.foot
 cases ha:L.av.ownBlock with
 | none=>
  cases hp:L.pv.ownBlock with
  | none=>simp[List.nodup_cons]
  | some q => simp [List.nodup_cons]; constructor
              · rintro⟨⟨h1,h2⟩,h3,h4⟩;exact⟨fun e=>h1 e.symm,h2,h4,h3⟩
              · rintro⟨h1,h2,h3,h4⟩;exact⟨⟨fun e=>h1 e.symm,h2⟩,h4,h3⟩
 | some p=>
  cases hp:L.pv.ownBlock with
  | none => simp [List.nodup_cons]; constructor
            · rintro⟨⟨h1,h2⟩,h3,h4⟩;exact⟨fun e=>h1 e.symm,h2,h4,h3⟩
            · rintro⟨h1,h2,h3,h4⟩;exact⟨⟨fun e=>h1 e.symm,h2⟩,h4,h3⟩
  | some q => simp [List.nodup_cons]; constructor
              · rintro⟨⟨h1,h2,h3⟩,⟨h4,h5⟩,h6,h7⟩;exact⟨fun e=>h1 e.symm,fun e=>h2 e.symm,h3,h7,⟨fun e=>h4 e.symm,h5⟩,h6⟩
              · rintro⟨h1,h2,h3,h4,⟨h5,h6⟩,h7⟩;exact⟨⟨fun e=>h1 e.symm,fun e=>h2 e.symm,h3⟩,⟨fun e=>h5 e.symm,h6⟩,h7,h4⟩
def Moved (F:List Nat) (v v':Value):Prop:=v'.ownBlock=v.ownBlock∨∃m,v'.ownBlock=some m∧m∉F
theorem once_pv {L:SLoc} {v':Value} (h:L.foot.Nodup) (hm:Moved L.foot L.pv v'):(SLoc.mk L.sb L.av v' L.ab).foot.Nodup:=by
 rw[foot_nodup] at h⊢;obtain⟨h1,h2,h3,h4,h5,h6⟩:=h;rcases hm with e | ⟨m,e,hF⟩
 · exact⟨h1,by rw[e];exact h2,h3,h4,fun k hk=>⟨by rw[e];exact(h5 k hk).1,(h5 k hk).2⟩,fun k hk=>h6 k (by rw[←e];exact hk)⟩
 · rw[SLoc.mem] at hF;refine⟨h1,?_,h3,h4,fun k hk=>⟨?_,(h5 k hk).2⟩,fun k hk=> ?_⟩
   · rw[e];intro e';injection e' with e';exact hF (.inl e')
   · rw[e];intro e';injection e' with e';subst e';exact hF (.inr (.inl hk))
   · rw[e] at hk;injection hk with hk;subst hk;exact fun hb=>hF (.inr (.inr (.inr hb)))
theorem mem_pv {L:SLoc} {v':Value} {n:Nat} (hm:v'.ownBlock=L.pv.ownBlock∨∃m,v'.ownBlock=some m∧n≤m):∀k∈(SLoc.mk L.sb L.av v' L.ab).foot,k∈L.foot∨n≤k:=by
 intro k hk;rw[SLoc.mem] at hk⊢;rcases hk with h | h | h | h
 · exact .inl (.inl h)
 · exact .inl (.inr (.inl h))
 · rcases hm with e | ⟨m,e,hl⟩
   · exact .inl (.inr (.inr (.inl (e.symm.trans h))))
   · rw[e] at h;injection h with h;subst h;exact .inr hl
 · exact .inl (.inr (.inr (.inr h)))
theorem blocks_nil:blocks []=[]:=rfl
theorem blocks_cons (x:Nat×Value) (t:List (Nat×Value)):blocks (x::t)=(x.1::x.2.ownBlock.toList) ++blocks t:=rfl
theorem blocks_append (a b:List (Nat×Value)):blocks (a ++b)=blocks a ++blocks b:=by unfold blocks;exact List.flatMap_append
theorem blocks_sub {a b:List (Nat×Value)} (h:a.Sublist b):(blocks a).Sublist (blocks b):=by
 induction h with
 | slnil=>exact List.Sublist.refl _
 | cons x _ ih=>rw[blocks_cons];exact ih.trans (List.sublist_append_right _ _)
 | cons_cons x _ ih=>rw[blocks_cons,blocks_cons];exact ih.append_left _
theorem blocks_same {ab:List (Nat×Value)} {i:Nat} {x:Nat×Value} {v':Value} (hx:ab[i]? =some x) (e:v'.ownBlock=x.2.ownBlock):blocks (ab.set i (x.1,v'))=blocks ab:=by
 induction ab generalizing i with
 | nil=>simp at hx
 | cons y t ih=>
  match i with
  | 0=>simp at hx;subst hx;rw[List.set_cons_zero,blocks_cons,blocks_cons,e]
  | i+1=>rw[List.set_cons_succ,blocks_cons,blocks_cons,ih (by simpa using hx)]
theorem mem_blocks_set {ab:List (Nat×Value)} {i:Nat} {x:Nat×Value} {v':Value} {k:Nat} (hx:ab[i]? =some x) (hk:k∈blocks (ab.set i (x.1,v'))):k∈blocks ab∨v'.ownBlock=some k:=by
 obtain⟨j,y,hy,hk⟩:=mem_blocks.1 hk;rw[List.getElem?_set] at hy;split at hy
 · rename_i hij
   split at hy
   · injection hy with hy
     subst hy;rcases hk with rfl | hk
     · exact .inl (mem_blocks.2 ⟨i,x,hx,.inl rfl⟩)
     · exact .inr hk
   · cases hy
 · exact .inl (mem_blocks.2 ⟨j,y,hy,hk⟩)
theorem blocks_fresh {ab:List (Nat×Value)} {i:Nat} {x:Nat×Value} {v':Value} {m:Nat} (hx:ab[i]? =some x) (e:v'.ownBlock=some m) (hm:m∉blocks ab) (h:(blocks ab).Nodup):(blocks (ab.set i (x.1,v'))).Nodup:=by
 induction ab generalizing i with
 | nil=>simp at hx
 | cons y t ih=>
  rw[blocks_cons] at h hm;rw[List.nodup_append] at h;obtain⟨h1,h2,h3⟩:=h
  match i with
  | 0=>
   simp at hx;subst hx;rw[List.set_cons_zero,blocks_cons,e,List.nodup_append];refine⟨?_,h2,?_⟩
   · simp;intro e';exact hm (by simp[e'])
   · intro a ha b hb hab;subst hab;rcases List.mem_cons.1 ha with rfl | ha
     · exact h3 _ (by simp) _ hb rfl
     · simp at ha;subst ha;exact hm (by simp[hb])
  | i+1=>
   rw[List.set_cons_succ,blocks_cons,List.nodup_append];refine⟨h1,ih (by simpa using hx) (fun hb=>hm (by simp[hb])) h2,fun a ha b hb hab=> ?_⟩;subst hab;rcases mem_blocks_set (by simpa using hx) hb with hb | hb
   · exact h3 _ ha _ hb rfl
   · rw[e] at hb;injection hb with hb;subst hb;exact hm (by rw[List.mem_append];exact .inl ha)
theorem once_rv {L:SLoc} {i:Nat} {x:Nat×Value} {v':Value} (h:L.foot.Nodup) (hx:L.ab[i]? =some x) (hm:Moved L.foot x.2 v'):(SLoc.mk L.sb L.av L.pv (L.ab.set i (x.1,v'))).foot.Nodup:=by
 rcases hm with e | ⟨m,e,hF⟩
 · rw[foot_nodup] at h⊢;show _∧_∧L.sb∉blocks (L.ab.set i (x.1,v'))∧(blocks (L.ab.set i (x.1,v'))).Nodup∧(∀k,_→_∧k∉blocks (L.ab.set i (x.1,v')))∧(∀k,_→k∉blocks (L.ab.set i (x.1,v')))
   rw[blocks_same hx e];exact h
 · rw[SLoc.mem] at hF;rw[foot_nodup] at h⊢;obtain⟨h1,h2,h3,h4,h5,h6⟩:=h;have hne:∀k,k∉blocks L.ab→m≠k→k∉blocks (L.ab.set i (x.1,v')):=fun k hk hmk hb=>by
    rcases mem_blocks_set hx hb with hb | hb
    · exact hk hb
    · rw[e] at hb;injection hb with hb;exact hmk hb
   refine⟨h1,h2,hne _ h3 (fun e=>hF (.inl e)),blocks_fresh hx e (fun hb=>hF (.inr (.inr (.inr hb)))) h4,fun k hk=>⟨(h5 k hk).1,hne _ (h5 k hk).2 (fun e=>hF (.inr (.inl (by rw[hk,e]))))⟩,fun k hk=>hne _ (h6 k hk) (fun e=>hF (.inr (.inr (.inl (by rw[hk,e])))))⟩
theorem mem_rv {L:SLoc} {i:Nat} {x:Nat×Value} {v':Value} {n:Nat} (hx:L.ab[i]? =some x) (hm:v'.ownBlock=x.2.ownBlock∨∃m,v'.ownBlock=some m∧n≤m):∀k∈(SLoc.mk L.sb L.av L.pv (L.ab.set i (x.1,v'))).foot,k∈L.foot∨n≤k:=by
 intro k hk;rw[SLoc.mem] at hk⊢;rcases hk with h | h | h | h
 · exact .inl (.inl h)
 · exact .inl (.inr (.inl h))
 · exact .inl (.inr (.inr (.inl h)))
 · rcases mem_blocks_set hx h with h | h
   · exact .inl (.inr (.inr (.inr h)))
   · rcases hm with e | ⟨m,e,hl⟩
     · exact .inl (.inr (.inr (.inr (mem_blocks.2 ⟨i,x,hx,.inr (e.symm.trans h)⟩))))
     · rw[e] at h;injection h with h;subst h;exact .inr hl
theorem once_add {L:SLoc} {av':Value} {m:Nat} (h:L.foot.Nodup) (hm:m∉L.foot) (ha:av'.ownBlock=L.av.ownBlock∨∃k,av'.ownBlock=some k∧k∉L.foot∧k≠m):(SLoc.mk L.sb av' L.pv (L.ab ++ [(m,.slice none 0 0)])).foot.Nodup:=by
 rw[SLoc.mem] at hm;rw[foot_nodup] at h⊢;obtain⟨h1,h2,h3,h4,h5,h6⟩:=h;have hb:∀k,k∈blocks (L.ab ++ [(m,.slice none 0 0)])↔k∈blocks L.ab∨k=m:=fun k=>by
  rw[blocks_append,List.mem_append];simp[blocks_cons,blocks_nil,Value.ownBlock]
 have hav:av'.ownBlock≠some L.sb∧∀k,av'.ownBlock=some k→L.pv.ownBlock≠some k∧k∉blocks L.ab∧k≠m:=by
  rcases ha with e | ⟨q,e,hF,hq⟩
  · rw[e];exact⟨h1,fun k hk=>⟨(h5 k hk).1,(h5 k hk).2,fun e=>hm (.inr (.inl (by rw[hk,e])))⟩⟩
  · rw[SLoc.mem] at hF;rw[e];refine⟨fun e'=>hF (.inl (by injection e')),fun k hk=> ?_⟩;injection hk with hk
    subst hk;exact⟨fun e'=>hF (.inr (.inr (.inl e'))),fun hb=>hF (.inr (.inr (.inr hb))),hq⟩
 refine⟨hav.1,h2,?_,?_,fun k hk=>⟨(hav.2 k hk).1,?_⟩,fun k hk=> ?_⟩
 · rw[hb];rintro(h | h);exact h3 h;exact hm (.inl h.symm)
 · show(blocks (L.ab ++ [(m,.slice none 0 0)])).Nodup
   rw[blocks_append,List.nodup_append];refine⟨h4,by simp[blocks_cons,blocks_nil,Value.ownBlock],fun a hab0 b hb' hab=> ?_⟩;simp[blocks_cons,blocks_nil,Value.ownBlock] at hb';subst hb' hab;exact hm (.inr (.inr (.inr hab0)))
 · rw[hb];rintro(h | h);exact(hav.2 k hk).2.1 h;exact(hav.2 k hk).2.2 h
 · rw[hb];rintro(h | h);exact h6 k hk h;exact hm (.inr (.inr (.inl (by rw[←h];exact hk))))
theorem mem_add {L:SLoc} {av':Value} {m n:Nat} (hm:n≤m) (ha:av'.ownBlock=L.av.ownBlock∨∃k,av'.ownBlock=some k∧n≤k):∀k∈(SLoc.mk L.sb av' L.pv (L.ab ++ [(m,.slice none 0 0)])).foot,k∈L.foot∨n≤k:=by
 intro k hk;rw[SLoc.mem] at hk⊢;rcases hk with h | h | h | h
 · exact .inl (.inl h)
 · rcases ha with e | ⟨q,e,hl⟩
   · exact .inl (.inr (.inl (e.symm.trans h)))
   · have h':av'.ownBlock=some k:=h;rw[e] at h';injection h' with h';subst h';exact .inr hl
 · exact .inl (.inr (.inr (.inl h)))
 · have h':k∈blocks (L.ab ++ [(m,.slice none 0 0)]):=h;rw[blocks_append,List.mem_append] at h';rcases h' with h' | h'
   · exact .inl (.inr (.inr (.inr h')))
   · simp[blocks_cons,blocks_nil,Value.ownBlock] at h';subst h';exact .inr hm
theorem once_del {L:SLoc} {av':Value} (i:Nat) (h:L.foot.Nodup) (ha:av'.ownBlock=L.av.ownBlock):(SLoc.mk L.sb av' L.pv (L.ab.eraseIdx i)).foot.Nodup:=by
 rw[foot_nodup] at h⊢;obtain⟨h1,h2,h3,h4,h5,h6⟩:=h;have hs:(blocks (L.ab.eraseIdx i)).Sublist (blocks L.ab):=blocks_sub (List.eraseIdx_sublist _ _);exact⟨by rw[ha];exact h1,h2,fun hb=>h3 (hs.subset hb),h4.sublist hs,fun k hk=>⟨(h5 k (by rw[←ha];exact hk)).1,fun hb=>(h5 k (by rw[←ha];exact hk)).2 (hs.subset hb)⟩,fun k hk hb=>h6 k hk (hs.subset hb)⟩
theorem mem_del {L:SLoc} {av':Value} (i:Nat) (ha:av'.ownBlock=L.av.ownBlock):∀k∈(SLoc.mk L.sb av' L.pv (L.ab.eraseIdx i)).foot,k∈L.foot:=by
 intro k hk;rw[SLoc.mem] at hk⊢;have hs:(blocks (L.ab.eraseIdx i)).Sublist (blocks L.ab):=blocks_sub (List.eraseIdx_sublist _ _);rcases hk with h | h | h | h
 · exact .inl h
 · exact .inr (.inl (ha.symm.trans h))
 · exact .inr (.inr (.inl h))
 · exact .inr (.inr (.inr (hs.subset h)))
def putSeat4 (w:World) (g o:Nat) (t:MSeat):World:=(((w.setCell ⟨g,o,none⟩ (.int .i64 t.p)).setCell ⟨g,o+1,none⟩ (.int .i64 t.d)).setCell ⟨g,o+2,none⟩ (.int .i64 t.s)).setCell ⟨g,o+3,none⟩ (.int .i64 t.h)
theorem Goes.seat {F:List Nat} {w:World} (g o:Nat) (t:MSeat) (h:g∈F):Goes F F w (putSeat4 w g o t):=
 (((Goes.setCell g o _ h).trans (.setCell g _ _ h)).trans (.setCell g _ _ h)).trans (.setCell g _ _ h)
theorem part_seat {w:World} {B:Nat} {T:TypeId} {g cap n:Nat} {ps:List SPart} (h:w.ownsRow B T 7 (.slice (some ⟨g,0,none⟩) n cap) n (partsL ps)) (i:Nat) (p:SPart) (hp:ps[i]? =some p) (t:MSeat):(putSeat4 w g (i*7+3) t).ownsRow B T 7 (.slice (some ⟨g,0,none⟩) n cap) n (partsL (ps.set i {p with seat:=t})):=by
 have hn:ps.length=n:=by have:=h.1;unfold partsL at this;rw[flat_length _ 7 partL_len] at this;omega
 obtain⟨hi,rfl⟩:=List.getElem?_eq_some_iff.1 hp;have hb:∀j,j<7→i*7+j<n*7:=fun j hj=>by omega
 have h1:=row_set h (i*7+3) (.int .i64 t.p) (hb 3 (by decide));rw[show(partsL ps).set (i*7+3) (.int .i64 t.p)=partsL (ps.set i {ps[i] with seat:=⟨t.p,ps[i].seat.d,ps[i].seat.s,ps[i].seat.h⟩}) from flat_set partL 7 partL_len ps i 3 hi (by decide) _ _ rfl] at h1;have h2:=row_set h1 (i*7+4) (.int .i64 t.d) (hb 4 (by decide))
 rw[show(partsL (ps.set i {ps[i] with seat:=⟨t.p,ps[i].seat.d,ps[i].seat.s,ps[i].seat.h⟩})).set (i*7+4) (.int .i64 t.d)=partsL ((ps.set i {ps[i] with seat:=⟨t.p,ps[i].seat.d,ps[i].seat.s,ps[i].seat.h⟩}).set i {ps[i] with seat:=⟨t.p,t.d,ps[i].seat.s,ps[i].seat.h⟩}) from flat_set partL 7 partL_len _ i 4 (by simpa using hi) (by decide) _ _ (by simp[partL]),List.set_set] at h2
 have h3:=row_set h2 (i*7+5) (.int .i64 t.s) (hb 5 (by decide))
 rw[show(partsL (ps.set i {ps[i] with seat:=⟨t.p,t.d,ps[i].seat.s,ps[i].seat.h⟩})).set (i*7+5) (.int .i64 t.s)=partsL ((ps.set i {ps[i] with seat:=⟨t.p,t.d,ps[i].seat.s,ps[i].seat.h⟩}).set i {ps[i] with seat:=⟨t.p,t.d,t.s,ps[i].seat.h⟩}) from flat_set partL 7 partL_len _ i 5 (by simpa using hi) (by decide) _ _ (by simp[partL]),List.set_set] at h3
 have h4:=row_set h3 (i*7+6) (.int .i64 t.h) (hb 6 (by decide));rw[show(partsL (ps.set i {ps[i] with seat:=⟨t.p,t.d,t.s,ps[i].seat.h⟩})).set (i*7+6) (.int .i64 t.h)=partsL ((ps.set i {ps[i] with seat:=⟨t.p,t.d,t.s,ps[i].seat.h⟩}).set i {ps[i] with seat:=t}) from flat_set partL 7 partL_len _ i 6 (by simpa using hi) (by decide) _ _ (by simp[partL]),List.set_set] at h4;exact h4
theorem reg_seat {w:World} {B:Nat} {T:TypeId} {g cap n:Nat} {ps:List SReg} (h:w.ownsRow B T 6 (.slice (some ⟨g,0,none⟩) n cap) n (regsL ps)) (i:Nat) (p:SReg) (hp:ps[i]? =some p) (t:MSeat):(putSeat4 w g (i*6+2) t).ownsRow B T 6 (.slice (some ⟨g,0,none⟩) n cap) n (regsL (ps.set i {p with seat:=t})):=by
 have hn:ps.length=n:=by have:=h.1;unfold regsL at this;rw[flat_length _ 6 regL_len] at this;omega
 obtain⟨hi,rfl⟩:=List.getElem?_eq_some_iff.1 hp;have hb:∀j,j<6→i*6+j<n*6:=fun j hj=>by omega
 have h1:=row_set h (i*6+2) (.int .i64 t.p) (hb 2 (by decide));rw[show(regsL ps).set (i*6+2) (.int .i64 t.p)=regsL (ps.set i {ps[i] with seat:=⟨t.p,ps[i].seat.d,ps[i].seat.s,ps[i].seat.h⟩}) from flat_set regL 6 regL_len ps i 2 hi (by decide) _ _ rfl] at h1;have h2:=row_set h1 (i*6+3) (.int .i64 t.d) (hb 3 (by decide))
 rw[show(regsL (ps.set i {ps[i] with seat:=⟨t.p,ps[i].seat.d,ps[i].seat.s,ps[i].seat.h⟩})).set (i*6+3) (.int .i64 t.d)=regsL ((ps.set i {ps[i] with seat:=⟨t.p,ps[i].seat.d,ps[i].seat.s,ps[i].seat.h⟩}).set i {ps[i] with seat:=⟨t.p,t.d,ps[i].seat.s,ps[i].seat.h⟩}) from flat_set regL 6 regL_len _ i 3 (by simpa using hi) (by decide) _ _ (by simp[regL]),List.set_set] at h2
 have h3:=row_set h2 (i*6+4) (.int .i64 t.s) (hb 4 (by decide))
 rw[show(regsL (ps.set i {ps[i] with seat:=⟨t.p,t.d,ps[i].seat.s,ps[i].seat.h⟩})).set (i*6+4) (.int .i64 t.s)=regsL ((ps.set i {ps[i] with seat:=⟨t.p,t.d,ps[i].seat.s,ps[i].seat.h⟩}).set i {ps[i] with seat:=⟨t.p,t.d,t.s,ps[i].seat.h⟩}) from flat_set regL 6 regL_len _ i 4 (by simpa using hi) (by decide) _ _ (by simp[regL]),List.set_set] at h3
 have h4:=row_set h3 (i*6+5) (.int .i64 t.h) (hb 5 (by decide));rw[show(regsL (ps.set i {ps[i] with seat:=⟨t.p,t.d,t.s,ps[i].seat.h⟩})).set (i*6+5) (.int .i64 t.h)=regsL ((ps.set i {ps[i] with seat:=⟨t.p,t.d,t.s,ps[i].seat.h⟩}).set i {ps[i] with seat:=t}) from flat_set regL 6 regL_len _ i 5 (by simpa using hi) (by decide) _ _ (by simp[regL]),List.set_set] at h4;exact h4
theorem actEq (n q n' q':Int) (w:World):(binOp .eql 36 (.agg #[n,q]) (.agg #[n',q'])).run Tryz.prog w=.ok (.bool (decide (n=n'∧q=q'))) w:=by
 by_cases h1:n=n'<;>by_cases h2:q=q'<;>(go_simp;try simp[h1,h2])
theorem has_of (L:SLoc) (S:Sto) (pt:Int) (w:World) (h:StoreAt L S w):Calls Tryz.prog 86 #[.pointer (some ⟨L.sb,0,none⟩),.int .i64 pt] w (Gives (.bool (decide (0≤pt∧pt<(S.parts.length:Int)))) w):=by
 have q:=h.blk.cell;obtain⟨a,cap,hv⟩:=row_slice h.parts;rw[hv] at q;obtain⟨n,hn⟩:∃n,n=S.parts.length:=⟨_,rfl⟩
 rw[←hn] at q⊢;have c3:w.cell? ⟨L.sb,3,none⟩=some (.slice a n cap):=q 3;clear q hn hv h;by_cases h0:0≤pt
 · by_cases h1:pt<(n:Int)
   · rw[decide_eq_true ⟨h0,h1⟩];go_enter Tryz.func86,Tryz.ntmps86;go_wp2_with fail;go_ret;exact⟨rfl,rfl⟩
   · rw[decide_eq_false (fun x=>h1 x.2)];go_enter Tryz.func86,Tryz.ntmps86;go_wp2_with fail;go_ret;exact⟨rfl,rfl⟩
 · rw[decide_eq_false (fun x=>h0 x.1)];go_enter Tryz.func86,Tryz.ntmps86;go_wp2_with fail;go_ret;exact⟨rfl,rfl⟩
theorem find1_of (b p:Nat) (a:SAct) (v:Value) (n q:Int) (w:World) (hb:Blk w b (actC a v)) (hp:Blk w p #[n,q]):Calls Tryz.prog 192 #[.pointer (some ⟨b,0,none⟩),.pointer (some ⟨p,0,none⟩)] w (Makes (.bool (decide (a.an=n∧a.aq=q))) w):=by
 have hse:=fun W=>actEq a.an a.aq n q W
 generalize decide (a.an=n∧a.aq=q)=t at*;have a0:w.cell? ⟨b,0,none⟩=some (.int .i64 a.an):=hb.cell 0;have a1:w.cell? ⟨b,1,none⟩=some (.int .i64 a.aq):=hb.cell 1;have p0:w.cell? ⟨p,0,none⟩=some (.int .i64 n):=hp.cell 0;have p1:w.cell? ⟨p,1,none⟩=some (.int .i64 q):=hp.cell 1;clear hb hp;go_enter Tryz.func192,Tryz.ntmps192;go_wp2_with fail;go_quiet (fail);go_wp2_with fail;go_ret
 exact⟨rfl,⟨rfl,rfl,rfl,Nat.le_refl _,fun _ _=>rfl⟩⟩
theorem child1_of (b p:Nat) (a:SAct) (v:Value) (n:Int) (w:World) (hb:Blk w b (actC a v)) (hp:Blk w p #[n]):Calls Tryz.prog 203 #[.pointer (some ⟨b,0,none⟩),.pointer (some ⟨p,0,none⟩)] w (Makes (.bool (decide (a.pa=n))) w):=by
 have a0:w.cell? ⟨b,5,none⟩=some (.int .i64 a.pa):=hb.cell 5;have p0:w.cell? ⟨p,0,none⟩=some (.int .i64 n):=hp.cell 0;clear hb hp;have e:(a.pa==n)=decide (a.pa=n):=by by_cases h:a.pa=n<;>simp[h]
 generalize decide (a.pa=n)=t at*;generalize a.pa=x at*;go_enter Tryz.func203,Tryz.ntmps203;go_wp2_with fail;go_quiet (fail);go_wp2_with fail;go_ret;exact⟨ret_bool (by first | rfl | exact e),⟨rfl,rfl,rfl,Nat.le_refl _,fun _ _=>rfl⟩⟩
theorem indexP_find (p : Nat) {α : Type} (l : List α) (q : α → Bool) (av : Value) (ab : List (Nat × Value)) (w : World) (hrow : w.ownsRow 0 159 1 av l.length (ptrs ab)) (hl : l.length ≤ 1000)
    (hp:∀(W:World) (j:Nat) (x:Nat×Value) (a:α),Below w.heap.size w W→ab[j]? =some x→l[j]? =some a→Calls Tryz.prog 192 #[.pointer (some ⟨x.1,0,none⟩),.pointer (some ⟨p,0,none⟩)] W (Makes (.bool (q a)) W)):
    Calls Tryz.prog 191 #[av,.func (.func 192) #[] #[.pointer (some ⟨p,0,none⟩)]] w (Makes (.int .i64 (oix (l.findIdx? q))) w):=by
 obtain⟨a,cap,rfl,hab,hr⟩:=ptr_row hrow;have HR:=qq hr;have HP:=qq hp;have HA:=qq hab;clear hr hp hab hrow;obtain⟨n,hn⟩:∃n,n=l.length:=⟨_,rfl⟩
 rw[←hn] at hl HR HA⊢;have HN:=qq hn;clear hn;go_enter Tryz.func191,Tryz.ntmps191;go_wp2_with fail;go_loopw [8] (fun i wr=>∃k:Nat,k≤n∧i=.int .i64 (k:Nat)∧Hid (∀(j:Nat) (h:j<l.length),j<k→q l[j]=false)∧Below w.heap.size w wr) (fun i _=>n - (intOf i).toNat)
 case atStart=>exact⟨0,by omega,by go_num,qq (fun j _ h=>absurd h (by omega)),Below.refl _ _⟩
 case round=>
  obtain⟨k,hk,rfl,HBE,hB⟩:=hrel;by_cases hlt:k<n
  · have hks:k<l.length:=by rw[←HN.out];exact hlt
    obtain⟨g,rfl,hg,hfz,hcell⟩:=HR.out (by omega);obtain⟨x,hx⟩:∃x,ab[k]? =some x:=⟨_,List.getElem?_eq_getElem (by rw[HA.out];exact hlt)⟩
    have c0:wr.cell? ⟨g,k,none⟩=some (.pointer (some ⟨x.1,0,none⟩)):=(hB.cell (p:=⟨g,k,none⟩) hg).trans (hcell k x hx);have hki:(k:Int)<(n:Int):=by omega
    have hk0:(0:Int)≤(k:Int):=by omega
    have hc:=fun W hW=>HP.out W k x l[k] hW hx (List.getElem?_eq_getElem hks)
    obtain⟨t,ht⟩:∃t,t=q l[k]:=⟨_,rfl⟩
    rw[←ht] at hc;have HT:=qq ht;have HC:=qq hc;clear ht hc hcell hx hfz;obtain⟨xb,xv⟩:=x;dsimp only at c0 HC;go_wp2_with fail;refine(HC.out _ (below_then hB (by go_grown))).mono ?_;rintro e w1 ⟨rfl,hb1⟩;have hB1:Below w.heap.size w w1:=below_then hB (below_then (by go_grown) hb1)
    cases t with
    | true=>
     go_wp2_with fail;go_ret;exact⟨by rw[find_hit hks HBE.out HT.out.symm];rfl,hB1⟩
    | false=>
     go_wp2_with fail
     all_goals (go_roundw <;> first | exact ⟨k + 1, by omega, by go_num, qq (fun j h hj => by
         rcases Nat.lt_or_eq_of_le (Nat.le_of_lt_succ hj) with h1 | h1
         · exact HBE.out j h h1
         · subst h1;exact HT.out.symm),hB1⟩ | (simp[intOf];omega))
  · obtain rfl:k=n:=by omega
    go_wp2_with fail;go_ret;exact⟨by rw[find_miss (fun j h=>HBE.out j h (by rw[HN.out];exact h))];rfl,hB⟩
theorem indexP_child (p : Nat) {α : Type} (l : List α) (q : α → Bool) (av : Value) (ab : List (Nat × Value)) (w : World) (hrow : w.ownsRow 0 159 1 av l.length (ptrs ab)) (hl : l.length ≤ 1000)
    (hp:∀(W:World) (j:Nat) (x:Nat×Value) (a:α),Below w.heap.size w W→ab[j]? =some x→l[j]? =some a→Calls Tryz.prog 203 #[.pointer (some ⟨x.1,0,none⟩),.pointer (some ⟨p,0,none⟩)] W (Makes (.bool (q a)) W)):
    Calls Tryz.prog 191 #[av,.func (.func 203) #[] #[.pointer (some ⟨p,0,none⟩)]] w (Makes (.int .i64 (oix (l.findIdx? q))) w):=by
 obtain⟨a,cap,rfl,hab,hr⟩:=ptr_row hrow;have HR:=qq hr;have HP:=qq hp;have HA:=qq hab;clear hr hp hab hrow;obtain⟨n,hn⟩:∃n,n=l.length:=⟨_,rfl⟩
 rw[←hn] at hl HR HA⊢;have HN:=qq hn;clear hn;go_enter Tryz.func191,Tryz.ntmps191;go_wp2_with fail;go_loopw [8] (fun i wr=>∃k:Nat,k≤n∧i=.int .i64 (k:Nat)∧Hid (∀(j:Nat) (h:j<l.length),j<k→q l[j]=false)∧Below w.heap.size w wr) (fun i _=>n - (intOf i).toNat)
 case atStart=>exact⟨0,by omega,by go_num,qq (fun j _ h=>absurd h (by omega)),Below.refl _ _⟩
 case round=>
  obtain⟨k,hk,rfl,HBE,hB⟩:=hrel;by_cases hlt:k<n
  · have hks:k<l.length:=by rw[←HN.out];exact hlt
    obtain⟨g,rfl,hg,hfz,hcell⟩:=HR.out (by omega);obtain⟨x,hx⟩:∃x,ab[k]? =some x:=⟨_,List.getElem?_eq_getElem (by rw[HA.out];exact hlt)⟩
    have c0:wr.cell? ⟨g,k,none⟩=some (.pointer (some ⟨x.1,0,none⟩)):=(hB.cell (p:=⟨g,k,none⟩) hg).trans (hcell k x hx);have hki:(k:Int)<(n:Int):=by omega
    have hk0:(0:Int)≤(k:Int):=by omega
    have hc:=fun W hW=>HP.out W k x l[k] hW hx (List.getElem?_eq_getElem hks)
    obtain⟨t,ht⟩:∃t,t=q l[k]:=⟨_,rfl⟩
    rw[←ht] at hc;have HT:=qq ht;have HC:=qq hc;clear ht hc hcell hx hfz;obtain⟨xb,xv⟩:=x;dsimp only at c0 HC;go_wp2_with fail;refine(HC.out _ (below_then hB (by go_grown))).mono ?_;rintro e w1 ⟨rfl,hb1⟩;have hB1:Below w.heap.size w w1:=below_then hB (below_then (by go_grown) hb1)
    cases t with
    | true=>
     go_wp2_with fail;go_ret;exact⟨by rw[find_hit hks HBE.out HT.out.symm];rfl,hB1⟩
    | false=>
     go_wp2_with fail
     all_goals (go_roundw <;> first | exact ⟨k + 1, by omega, by go_num, qq (fun j h hj => by
         rcases Nat.lt_or_eq_of_le (Nat.le_of_lt_succ hj) with h1 | h1
         · exact HBE.out j h h1
         · subst h1;exact HT.out.symm),hB1⟩ | (simp[intOf];omega))
  · obtain rfl:k=n:=by omega
    go_wp2_with fail;go_ret;exact⟨by rw[find_miss (fun j h=>HBE.out j h (by rw[HN.out];exact h))];rfl,hB⟩
def aptr (L:SLoc) (o:Option Nat):Value:=.pointer (o.bind fun i=>(L.ab[i]?).map fun x=>(⟨x.1,0,none⟩:Addr))
theorem find_of (L:SLoc) (S:Sto) (n q:Int) (w:World) (h:StoreAt L S w) (hG:StoGood S):Calls Tryz.prog 88 #[.pointer (some ⟨L.sb,0,none⟩),.agg #[n,q]] w (Makes (aptr L (sfind S n q)) w):=by
 have hB:=(Below.refl w.heap.size w).alloc (Nat.le_refl _) (.cells #[n,q] 36);have h1:=h.below hB;have hbx:=Blk.fresh w #[n,q] 36 _ rfl;have hI:=fun W (hW:Below w.heap.size w W) (hA:StoreAt L S W) (hx:Blk W w.heap.size #[n,q])=>indexP_find w.heap.size S.acts (fun a=>decide (a.an=n∧a.aq=q)) L.av L.ab W hA.acts (by have:=hG.acts;omega)
  (fun W' j x a hb hx' ha'=>find1_of x.1 w.heap.size a x.2 n q W' ((hA.below hb).act j x a hx' ha').1 (hx.below hb))
 have q2:∀W,StoreAt L S W→W.cell? ⟨L.sb,2,none⟩=some L.av:=fun W hW=>hW.blk.cell 2
 have hlt:=h.blk.lt;obtain⟨a,cap,hv,hab,hr⟩:=ptr_row h1.acts;have hfi:S.acts.findIdx? (fun a=>decide (a.an=n∧a.aq=q))=sfind S n q:=rfl;rw[hfi] at hI;rw[hv] at hI q2;have hle:∀i,sfind S n q=some i→i<S.acts.length:=fun i hi=>by
  unfold sfind at hi;exact(List.findIdx?_eq_some_iff_getElem.1 hi).1
 obtain⟨m,hm⟩:∃m,m=S.acts.length:=⟨_,rfl⟩
 rw[←hm] at hI q2 hab hr hle;have HI:=qq (hI _ hB h1 hbx);have HQ:=qq q2;have HH:=qq h1;have HR:=qq hr;have HB:=qq hB;have HAB:=qq hab;have c0:=q2 _ h
 cases hs:sfind S n q with
 | none=>
  rw[hs] at HI;clear hs hI q2 h1 hr hB hbx hfi hv hm hle h hab;dsimp only[oix] at HI;dsimp only[aptr,Option.bind];go_enter Tryz.func88,Tryz.ntmps88;go_wp2_with fail;refine HI.out.mono ?_;rintro e w1 ⟨rfl,hb1⟩;go_wp2_with fail;go_ret;exact⟨rfl,below_then HB.out hb1⟩
 | some i=>
  rw[hs] at HI;have hil:=hle i hs;obtain⟨g,rfl,hg,hfz,hcell⟩:=hr (by omega);obtain⟨x,hx⟩:∃x,L.ab[i]? =some x:=⟨_,List.getElem?_eq_getElem (by omega)⟩
  have hc:=hcell i x hx;have hap:aptr L (some i)=.pointer (some ⟨x.1,0,none⟩):=by simp[aptr,hx]
  rw[hap];have HC:=qq hc;have HG:=qq hg;clear hs hI q2 h1 hr hB hbx hfi hv hm hle h hab hx hap hcell hc hg hfz HR;obtain⟨xb,xv⟩:=x;dsimp only[oix] at*;have hi0:(0:Int)≤(i:Int):=by omega
  have hi1:(i:Int)<(m:Int):=by omega
  go_enter Tryz.func88,Tryz.ntmps88;go_wp2_with fail;refine HI.out.mono ?_;rintro e w1 ⟨rfl,hb1⟩;have c1:=HQ.out _ (HH.out.below hb1);have c2:w1.cell? ⟨g,i,none⟩=some (.pointer (some ⟨xb,0,none⟩)):=(hb1.cell (p:=⟨g,i,none⟩) HG.out).trans HC.out;go_wp2_with fail;go_ret;exact⟨rfl,below_then HB.out hb1⟩
theorem child_of (L:SLoc) (S:Sto) (pa:Int) (w:World) (h:StoreAt L S w) (hG:StoGood S):Calls Tryz.prog 102 #[.pointer (some ⟨L.sb,0,none⟩),.int .i64 pa] w (Makes (aptr L (if pa≤0 then none else schild S pa)) w):=by
 have hB:=(Below.refl w.heap.size w).alloc (Nat.le_refl _) (.cells #[pa] 3);have h1:=h.below hB;have hbx:=Blk.fresh w #[pa] 3 _ rfl;have hI:=fun W (hW:Below w.heap.size w W) (hA:StoreAt L S W) (hx:Blk W w.heap.size #[pa])=>indexP_child w.heap.size S.acts (fun a=>decide (a.pa=pa)) L.av L.ab W hA.acts (by have:=hG.acts;omega)
  (fun W' j x a hb hx' ha'=>child1_of x.1 w.heap.size a x.2 pa W' ((hA.below hb).act j x a hx' ha').1 (hx.below hb))
 have q2:∀W,StoreAt L S W→W.cell? ⟨L.sb,2,none⟩=some L.av:=fun W hW=>hW.blk.cell 2
 have hlt:=h.blk.lt;obtain⟨a,cap,hv,hab,hr⟩:=ptr_row h1.acts;have hfi:S.acts.findIdx? (fun a=>decide (a.pa=pa))=schild S pa:=rfl;rw[hfi] at hI;rw[hv] at hI q2;have hle:∀i,schild S pa=some i→i<S.acts.length:=fun i hi=>by
  unfold schild at hi;exact(List.findIdx?_eq_some_iff_getElem.1 hi).1
 obtain⟨m,hm⟩:∃m,m=S.acts.length:=⟨_,rfl⟩
 rw[←hm] at hI q2 hab hr hle;have HI:=qq (hI _ hB h1 hbx);have HQ:=qq q2;have HH:=qq h1;have HR:=qq hr;have HB:=qq hB;have HAB:=qq hab;have HX:=qq hbx;have c0:=q2 _ h;by_cases hp:pa≤0
 · rw[if_pos hp];obtain⟨o,ho⟩:∃o,o=schild S pa:=⟨_,rfl⟩
   rw[←ho] at HI;clear ho hI q2 h1 hr hB hbx hfi hv hm hle h hab;dsimp only[aptr,Option.bind];go_enter Tryz.func102,Tryz.ntmps102;go_wp2_with fail;refine HI.out.mono ?_;rintro e w1 ⟨rfl,hb1⟩;have c1:w1.cell? ⟨w.heap.size,0,none⟩=some (.int .i64 pa):=(HX.out.below hb1).cell 0;go_wp2_with fail;go_ret;exact⟨rfl,below_then HB.out hb1⟩
 · rw[if_neg hp]
   cases hs:schild S pa with
   | none=>
    rw[hs] at HI;clear hs hI q2 h1 hr hB hbx hfi hv hm hle h hab;dsimp only[oix] at HI;dsimp only[aptr,Option.bind];go_enter Tryz.func102,Tryz.ntmps102;go_wp2_with fail;refine HI.out.mono ?_;rintro e w1 ⟨rfl,hb1⟩;have c1:w1.cell? ⟨w.heap.size,0,none⟩=some (.int .i64 pa):=(HX.out.below hb1).cell 0;go_wp2_with fail;go_ret;exact⟨rfl,below_then HB.out hb1⟩
   | some i=>
    rw[hs] at HI;have hil:=hle i hs;obtain⟨g,rfl,hg,hfz,hcell⟩:=hr (by omega);obtain⟨x,hx⟩:∃x,L.ab[i]? =some x:=⟨_,List.getElem?_eq_getElem (by omega)⟩
    have hc:=hcell i x hx;have hap:aptr L (some i)=.pointer (some ⟨x.1,0,none⟩):=by simp[aptr,hx]
    rw[hap];have HC:=qq hc;have HG:=qq hg;clear hs hI q2 h1 hr hB hbx hfi hv hm hle h hab hx hap hcell hc hg hfz HR;obtain⟨xb,xv⟩:=x;dsimp only[oix] at*;have hi0:(0:Int)≤(i:Int):=by omega
    have hi1:(i:Int)<(m:Int):=by omega
    go_enter Tryz.func102,Tryz.ntmps102;go_wp2_with fail;refine HI.out.mono ?_;rintro e w1 ⟨rfl,hb1⟩;have c3:w1.cell? ⟨w.heap.size,0,none⟩=some (.int .i64 pa):=(HX.out.below hb1).cell 0;have c1:=HQ.out _ (HH.out.below hb1);have c2:w1.cell? ⟨g,i,none⟩=some (.pointer (some ⟨xb,0,none⟩)):=(hb1.cell (p:=⟨g,i,none⟩) HG.out).trans HC.out;go_wp2_with fail;go_ret;exact⟨rfl,below_then HB.out hb1⟩
end Go.Proofs.YtlkajejbfojkeaaGreatDoor
