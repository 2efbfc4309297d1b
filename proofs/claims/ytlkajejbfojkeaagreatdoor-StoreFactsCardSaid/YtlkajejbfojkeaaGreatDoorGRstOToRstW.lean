/- RstO, RstV, RstW -/
import Derived.Test.YtlkajejbfojkeaaGreatDoorGRstD
set_option linter.unusedSimpArgs false
set_option linter.unusedVariables false
set_option maxRecDepth 100000
set_option maxHeartbeats 16000000
namespace Go.Proofs.YtlkajejbfojkeaaGreatDoor
open Go.RowKit
attribute [local go_sem] store_float
theorem rapply_noact (R : RLoc) (S : Sto) (f : SFact) (w : World) (hx : F64 f.ex) (h : RStoreAt R S w) (hl : S.acts.length ≤ 8) (hok : fok f = true) (hk : f.k ≠ 1 ∧ f.k ≠ 6 ∧ f.k ≠ 7 ∧ f.k ≠ 8) (hp : sfind S f.an f.aq = none) :
    Calls Tryz.prog 22 #[.pointer (some ⟨R.sb,0,none⟩),factV f] w (RApplyEnds R S 9 w):=by
 have hR:=fun W=>rright14_of f hx W
 rw[hok] at hR;have hF:=fun W (hW:Below w.heap.size w W)=>rfind_of R S f.an f.aq W (h.below hW) hl
 rw[hp] at hF;dsimp only[oix] at hF;have HR:=qq hR;have HF:=qq hF;have H:=qq h;obtain⟨k,an,aq,rg,nd,pt,pr,oc,dp,pa,st,hw,de,ex⟩:=f;dsimp only at hk;obtain⟨k1,k6,k7,k8⟩:=hk;have d1:(k==1)=false:=by simpa using k1
 have d6:(k==6)=false:=by simpa using k6
 have d7:(k==7)=false:=by simpa using k7
 have d8:(k==8)=false:=by simpa using k8
 dsimp only[factV,factC] at*;clear hR hF h hok hx hp k1 k6 k7 k8 hl;go_enter Tryz.func22,Tryz.ntmps22;go_wp2_with fail
 (with_reducible refine(HR.out _).mono ?_)
 rintro e w1 ⟨rfl,hb1⟩;have B1:Below w.heap.size w w1:=below_then (by go_grown) hb1;have HK:=qq ((Blk.fresh w _ _ _ rfl).below hb1);obtain⟨q,qf⟩:=HK.out.out;go_wp2_with fail
 (with_reducible refine(HF.out _ B1).mono ?_)
 rintro e w2 ⟨rfl,hb2⟩;have B2:Below w.heap.size w w2:=below_then B1 hb2;clear q qf;obtain⟨q,qf⟩:=(HK.out.below hb2).out;go_wp2_with fail;go_ret;exact⟨rfl,RGoes.same H.out B2⟩
theorem rapply_act (R : RLoc) (S T : Sto) (f : SFact) (i : Nat) (b : Bool) (w : World) (hx : F64 f.ex) (h : RStoreAt R S w) (hl : S.acts.length ≤ 8) (hok : fok f = true) (hk : f.k ≠ 1 ∧ f.k ≠ 6 ∧ f.k ≠ 7 ∧ f.k ≠ 8) (hp : sfind S f.an f.aq = some i) (hC : ∀ W, Below w.heap.size w W → Calls Tryz.prog 93 #[.pointer (some ⟨R.sb, 0, none⟩), .int .i64 (i : Int), factV f] W fun e w' => e = .returned (.bool b) ∧ RGoes R T W w') :
    Calls Tryz.prog 22 #[.pointer (some ⟨R.sb,0,none⟩),factV f] w (RApplyEnds R T (if b=true then 0 else 9) w):=by
 have hR:=fun W=>rright14_of f hx W
 rw[hok] at hR;have hF:=fun W (hW:Below w.heap.size w W)=>rfind_of R S f.an f.aq W (h.below hW) hl
 rw[hp] at hF;dsimp only[oix] at hF;have HR:=qq hR;have HF:=qq hF;have H:=qq h;have HC:=qq hC;obtain⟨k,an,aq,rg,nd,pt,pr,oc,dp,pa,st,hw,de,ex⟩:=f;dsimp only at hk;obtain⟨k1,k6,k7,k8⟩:=hk;have d1:(k==1)=false:=by simpa using k1
 have d6:(k==6)=false:=by simpa using k6
 have d7:(k==7)=false:=by simpa using k7
 have d8:(k==8)=false:=by simpa using k8
 dsimp only[factV,factC] at*;have d0:decide ((i:Int)<0)=false:=decide_eq_false (by omega);have d00:decide (i<0)=false:=decide_eq_false (by omega);clear hR hF h hok hx hp k1 k6 k7 k8 hl hC
 cases b
 all_goals
  go_enter Tryz.func22,Tryz.ntmps22;go_wp2_with fail
  (with_reducible refine(HR.out _).mono ?_)
  rintro e w1 ⟨rfl,hb1⟩;have B1:Below w.heap.size w w1:=below_then (by go_grown) hb1;have HK:=qq ((Blk.fresh w _ _ _ rfl).below hb1);obtain⟨q,qf⟩:=HK.out.out;go_wp2_with fail
  (with_reducible refine(HF.out _ B1).mono ?_)
  rintro e w2 ⟨rfl,hb2⟩;have B2:Below w.heap.size w w2:=below_then B1 hb2;clear q qf;obtain⟨q,qf⟩:=(HK.out.below hb2).out;go_wp2_with fail
  (with_reducible refine(HC.out _ B2).mono ?_)
  rintro e w3 ⟨rfl,hs⟩;have HS:=qq (hs.after B2);clear hs;go_wp2_with fail;go_ret;exact⟨rfl,HS.out⟩
theorem mem_rset {rv:List Value} {i k:Nat} {v':Value} (h:k∈rblocks (rv.set i v')):k∈rblocks rv∨v'.ownBlock=some k:=by
 obtain⟨j,u,hu,hk⟩:=mem_rblocks.1 h;rw[List.getElem?_set] at hu;split at hu
 · split at hu
   · injection hu with hu;subst hu;exact .inr hk
   · cases hu
 · exact .inl (mem_rblocks.2 ⟨j,u,hu,hk⟩)
theorem rset_fresh {rv:List Value} {i m:Nat} {v':Value} (e:v'.ownBlock=some m) (hm:m∉rblocks rv) (h:(rblocks rv).Nodup):(rblocks (rv.set i v')).Nodup:=by
 induction rv generalizing i with
 | nil=>simpa using h
 | cons x t ih=>
  rw[rblocks_cons] at h hm;rw[List.nodup_append] at h;obtain⟨h1,h2,h3⟩:=h
  match i with
  | 0=>
   rw[List.set_cons_zero,rblocks_cons,e,List.nodup_append];refine⟨by simp,h2,fun a ha b hb hab=> ?_⟩;simp at ha;subst ha hab;exact hm (by simp[hb])
  | i+1=>
   rw[List.set_cons_succ,rblocks_cons,List.nodup_append];refine⟨h1,ih (fun hb=>hm (by simp[hb])) h2,fun a ha b hb hab=> ?_⟩;subst hab;rcases mem_rset hb with hb | hb
   · exact h3 _ ha _ hb rfl
   · rw[e] at hb;injection hb with hb;subst hb;exact hm (by rw[List.mem_append];exact .inl ha)
theorem actsL_same:∀(l:List SAct) (rv:List Value) (i:Nat) {a b:SAct},l[i]? =some a→(∀v,actL b v=actL a v)→actsL (l.set i b) rv=actsL l rv
 | [],rv,i,a,b,h,_=>by simp at h
 | x::t,[],i,a,b,h,_=>by cases i<;>simp[actsL]
 | x::t,y::u,0,a,b,h,hb=>by
  simp at h;subst h;simp only[actsL,List.set_cons_zero,List.zip_cons_cons,List.flatMap_cons,hb]
 | x::t,y::u,i+1,a,b,h,hb=>by
  have:=actsL_same t u i (by simpa using h) hb;simp only[actsL] at this;simp only[actsL,List.set_cons_succ,List.zip_cons_cons,List.flatMap_cons,this]
theorem renr_goes {R : RLoc} {S : Sto} {w w2 : World} {g cap i m : Nat} {a : SAct} {rs : List SReg} {v' : Value} (h : RStoreAt R S w) (hb : Below w.heap.size w w2) (hv : R.av = .slice (some ⟨g, 0, none⟩) S.acts.length cap) (ha : S.acts[i]? = some a) (ho : w2.ownsRow 0 199 6 v' rs.length (regsL rs)) (hm : v'.ownBlock = some m) (hml : w.heap.size ≤ m) :
    RGoes R {S with acts:=S.acts.set i {a with regs:=rs}} w (w2.setCell ⟨g,i*8+7,none⟩ v'):=by
 have h2:=h.below hb;have hown:R.av.ownBlock=some g:=by rw[hv];rfl
 have hn:=h.ne_top;have hgl:g<w.heap.size:=(h.acts.lt g hown).2;obtain⟨v,hvi⟩:∃v,R.rv[i]? =some v:=⟨_,List.getElem?_eq_getElem (by rw[h.len];exact(List.getElem?_eq_some_iff.1 ha).1)⟩
 have hmf:m∉R.foot:=fun hk=>by have:=h.lt m hk;omega
 rw[RLoc.mem] at hmf;have hset:∀k,k≠g→(w2.setCell ⟨g,i*8+7,none⟩ v').heap[k]? =w2.heap[k]? :=fun k hk=>Below.heap_setCell _ _ _ _ hk
 refine⟨⟨R.sb,R.av,R.pv,R.rv.set i v'⟩,rfl,⟨h2.blk.same (by simp) (hset _ (fun e=>hn.1 (by rw[hown,e]))),?_,row_heap h2.parts (fun k hk=>hset _ (fun e=>hn.2.2 g hown (by rw[hk,e]))),by simpa using h.len,fun j u b hu hb'=> ?_,?_⟩,((Goes.of_below hb).trans (Goes.setCell g _ _ (RLoc.mem.2 (.inr (.inl hown))))).change (fun k hk=> ?_)⟩
 · have hr:=h2.acts;show(w2.setCell ⟨g,i*8+7,none⟩ v').ownsRow 0 _ 8 R.av (S.acts.set i _).length (actsL (S.acts.set i _) (R.rv.set i v'))
   rw[hv] at hr⊢;rw[List.length_set];exact act_set h.len hr i 7 (by decide) a {a with regs:=rs} v v' ha hvi v' rfl
 · have hu':(R.rv.set i v')[j]? =some u:=hu;have hb2:(S.acts.set i {a with regs:=rs})[j]? =some b:=hb';by_cases hij:i=j
   · subst hij;rw[List.getElem?_set_self (List.getElem?_eq_some_iff.1 ha).1] at hb2;rw[List.getElem?_set_self (List.getElem?_eq_some_iff.1 hvi).1] at hu';injection hb2 with hb2;injection hu' with hu'
     subst hb2 hu';exact row_heap ho (fun k hk=>hset _ (fun e=>by rw[hm] at hk;injection hk with hk;omega))
   · rw[List.getElem?_set_ne hij] at hb2 hu';exact row_heap (h2.regs j u b hu' hb2) (fun k hk=>hset _ (fun e=>(h.ne_regs hu' k hk).2.1 (by rw[hown,e])))
 · obtain⟨h1,h2',h3,h4,h5,h6⟩:=rfoot_nodup.1 h.once;rw[rfoot_nodup];have hne:∀k,k∉rblocks R.rv→m≠k→k∉rblocks (R.rv.set i v'):=fun k hk hmk hb=>by
    rcases mem_rset hb with hb | hb
    · exact hk hb
    · rw[hm] at hb;injection hb with hb;exact hmk hb
   exact⟨h1,h2',hne _ h3 (fun e=>hmf (.inl e)),rset_fresh hm (fun hb=>hmf (.inr (.inr (.inr hb)))) h4,fun k hk=>⟨(h5 k hk).1,hne _ (h5 k hk).2 (fun e=>hmf (.inr (.inl (by rw[hk,e]))))⟩,fun k hk=>hne _ (h6 k hk) (fun e=>hmf (.inr (.inr (.inl (by rw[hk,e])))))⟩
 · rcases RLoc.mem.1 hk with h3 | h3 | h3 | h3
   · exact .inl (RLoc.mem.2 (.inl h3))
   · exact .inl (RLoc.mem.2 (.inr (.inl h3)))
   · exact .inl (RLoc.mem.2 (.inr (.inr (.inl h3))))
   · rcases mem_rset h3 with h3 | h3
     · exact .inl (RLoc.mem.2 (.inr (.inr (.inr h3))))
     · rw[hm] at h3;injection h3 with h3;subst h3;exact .inr hml
theorem rseat_reg_goes {R : RLoc} {S : Sto} {w w2 : World} {i j g cap : Nat} {v : Value} {a : SAct} {r : SReg} (h : RStoreAt R S w) (hb : Below w.heap.size w w2) (hvi : R.rv[i]? = some v) (ha : S.acts[i]? = some a) (hv : v = .slice (some ⟨g, 0, none⟩) a.regs.length cap) (hr : a.regs[j]? = some r) (t : MSeat) :
    RGoes R {S with acts:=S.acts.set i {a with regs:=a.regs.set j {r with seat:=t}}} w (putSeat4 w2 g (j*6+2) t):=by
 have h2:=h.below hb;have hown:v.ownBlock=some g:=by rw[hv];rfl
 have hne:=h.ne_regs hvi g hown;have hmem:g∈R.foot:=RLoc.mem.2 (.inr (.inr (.inr (mem_rblocks.2 ⟨i,v,hvi,hown⟩))));have hz:w2.heap.size≤(putSeat4 w2 g (j*6+2) t).heap.size:=by rw[size_seat];exact Nat.le_refl _
 refine⟨R,rfl,⟨h2.blk.same hz (heap_seat _ _ _ _ _ (fun e=>hne.1 e.symm)),?_,row_heap h2.parts (fun k hk=>heap_seat _ _ _ _ _ (fun e=>hne.2.2 (by rw[hk,e]))),by rw[List.length_set];exact h.len,fun q u b hu hb'=> ?_,h.once⟩,(Goes.of_below hb).trans (Goes.seat g _ t hmem)⟩
 · have hrow:=h2.acts;have hl:actsL (S.acts.set i {a with regs:=a.regs.set j {r with seat:=t}}) R.rv=actsL S.acts R.rv:=actsL_same _ _ _ ha (fun _=>rfl);rw[List.length_set,hl];exact row_heap hrow (fun k hk=>heap_seat _ _ _ _ _ (fun e=>hne.2.1 (by rw[hk,e])))
 · have hb2:(S.acts.set i {a with regs:=a.regs.set j {r with seat:=t}})[q]? =some b:=hb';by_cases hij:i=q
   · subst hij;rw[List.getElem?_set_self (List.getElem?_eq_some_iff.1 ha).1] at hb2;injection hb2 with hb2
     subst hb2;obtain rfl:v=u:=by rw[hvi] at hu;injection hu
     have hrr:=h2.regs i v a hvi ha;rw[hv] at hrr⊢;rw[List.length_set];exact reg_seat hrr j r hr t
   · rw[List.getElem?_set_ne hij] at hb2;exact row_heap (h2.regs q u b hu hb2) (fun k hk=>heap_seat _ _ _ _ _ (fun e=>h.ne_two hvi hu hij g hown (by rw[hk,e])))
theorem rblocks_append (a b:List Value):rblocks (a ++b)=rblocks a ++rblocks b:=by unfold rblocks;exact List.flatMap_append
theorem rblocks_sub {a b:List Value} (h:a.Sublist b):(rblocks a).Sublist (rblocks b):=by
 induction h with
 | slnil=>exact List.Sublist.refl _
 | cons x _ ih=>rw[rblocks_cons];exact ih.trans (List.sublist_append_right _ _)
 | cons_cons x _ ih=>rw[rblocks_cons,rblocks_cons];exact ih.append_left _
theorem rblocks_nil1 (rv:List Value):rblocks (rv ++ [.slice none 0 0])=rblocks rv:=by
 rw[rblocks_append];simp[rblocks,Value.ownBlock]
theorem actsL_snoc (l:List SAct) (rv:List Value) (a:SAct) (v:Value) (h:rv.length=l.length):actsL (l ++ [a]) (rv ++ [v])=actsL l rv ++actL a v:=by
 unfold actsL;rw[List.zip_append h.symm,List.flatMap_append];simp
theorem radd_goes {R : RLoc} {S : Sto} {w W w2 : World} {v2 : Value} {a : SAct} {nx : Int} (h : RStoreAt R S w) (hb : Below w.heap.size w W) (hr : a.regs = []) (hg : W.grownBy w2 R.av.ownBlock) (ho : w2.ownsRow 0 116 8 v2 (S.acts.length + 1) (actsL S.acts R.rv ++ actL a (.slice none 0 0))) (hat : v2.ownBlock = R.av.ownBlock ∨ v2.ownBlock = some W.heap.size) :
    RGoes R {S with next:=nx,acts:=S.acts ++ [a]} w ((w2.setCell ⟨R.sb,2,none⟩ v2).setCell ⟨R.sb,1,none⟩ (.int .i64 nx)):=by
 have hn:=h.ne_top;have hW:=h.below hb;have hav:∀k,R.av.ownBlock=some k→k<w.heap.size:=fun k hk=>(h.acts.lt k hk).2
 have hv2:v2.ownBlock≠some R.sb:=by
  rcases hat with e | e
  · rw[e];exact hn.1
  · rw[e];intro e';injection e' with e';have:=hW.blk.lt;omega
 have hblk:Blk w2 R.sb #[S.node,S.next,R.av,R.pv]:=hW.blk.same hg.size (hg.block _ hW.blk.lt (fun e=>hn.1 e.symm));have hset:∀k,k≠R.sb→((w2.setCell ⟨R.sb,2,none⟩ v2).setCell ⟨R.sb,1,none⟩ (.int .i64 nx)).heap[k]? =w2.heap[k]? :=fun k hk=>by
  rw[Below.heap_setCell _ _ _ _ hk,Below.heap_setCell _ _ _ _ hk]
 have hold:∀k,k<w.heap.size→R.av.ownBlock≠some k→w2.heap[k]? =w.heap[k]? :=fun k hk hk2=>(hg.block k (Nat.lt_of_lt_of_le hk hb.size) (fun e=>hk2 e.symm)).trans (hb.block k hk)
 refine⟨⟨R.sb,v2,R.pv,R.rv ++ [.slice none 0 0]⟩,rfl,⟨(hblk.set' 2 (by simp) v2).set' 1 (by simp) (.int .i64 nx),?_,row_heap h.parts (fun k hk=>(hset k (fun e=>hn.2.1 (by rw[hk,e]))).trans (hold k (h.parts.lt k hk).2 (fun e=>hn.2.2 k e hk))),by simp[h.len],fun j u b hu hb'=> ?_,?_⟩,((Goes.of_below hb).trans (((Goes.grown hg (fun k hk=>RLoc.mem.2 (.inr (.inl hk)))).trans (Goes.setCell R.sb 2 v2 (RLoc.mem.2 (.inl rfl)))).trans (Goes.setCell R.sb 1 _ (RLoc.mem.2 (.inl rfl))))).change (fun k hk=> ?_)⟩
 · show World.ownsRow _ 0 _ 8 v2 (S.acts ++ [a]).length (actsL (S.acts ++ [a]) (R.rv ++ [.slice none 0 0]))
   rw[actsL_snoc _ _ _ _ h.len,List.length_append];exact row_heap ho (fun k hk=>hset k (fun e=>hv2 (by rw[hk,e])))
 · have hu':(R.rv ++ [Value.slice none 0 0])[j]? =some u:=hu;have hb2:(S.acts ++ [a])[j]? =some b:=hb';have hl:=h.len;by_cases hj:j<S.acts.length
   · rw[List.getElem?_append_left (by omega)] at hu';rw[List.getElem?_append_left hj] at hb2;have hrr:=h.regs j u b hu' hb2;exact row_heap hrr (fun k hk=>(hset k (h.ne_regs hu' k hk).1).trans (hold k (hrr.lt k hk).2 (h.ne_regs hu' k hk).2.1))
   · rw[List.getElem?_append_right (by omega)] at hu' hb2;have hj':j=S.acts.length:=by
      have:=(List.getElem?_eq_some_iff.1 hb2).1;simp at this;omega
     subst hj';rw[hl] at hu';simp at hu' hb2;subst hu' hb2;rw[hr];exact World.ownsRow_nil _ _ _ _
 · obtain⟨h1,h2',h3,h4,h5,h6⟩:=rfoot_nodup.1 h.once;rw[rfoot_nodup];show v2.ownBlock≠some R.sb∧R.pv.ownBlock≠some R.sb∧R.sb∉rblocks (R.rv ++ [.slice none 0 0])∧(rblocks (R.rv ++ [.slice none 0 0])).Nodup∧(∀k,v2.ownBlock=some k→R.pv.ownBlock≠some k∧k∉rblocks (R.rv ++ [.slice none 0 0]))∧(∀k,R.pv.ownBlock=some k→k∉rblocks (R.rv ++ [.slice none 0 0]))
   rw[rblocks_nil1];refine⟨hv2,h2',h3,h4,fun k hk=> ?_,h6⟩;rcases hat with e | e
   · exact h5 k (by rw[←e];exact hk)
   · rw[e] at hk;injection hk with hk
     have hbs:=hb.size;exact⟨fun e'=>by have:=(h.parts.lt k e').2;omega,fun hm=>by have:=h.lt k (RLoc.mem.2 (.inr (.inr (.inr hm))));omega⟩
 · rcases RLoc.mem.1 hk with h3 | h3 | h3 | h3
   · exact .inl (RLoc.mem.2 (.inl h3))
   · rcases hat with e | e
     · exact .inl (RLoc.mem.2 (.inr (.inl (by rw[←e];exact h3))))
     · have h3':v2.ownBlock=some k:=h3;rw[e] at h3';injection h3' with h3';subst h3';exact .inr hb.size
   · exact .inl (RLoc.mem.2 (.inr (.inr (.inl h3))))
   · have h3':k∈rblocks (R.rv ++ [.slice none 0 0]):=h3;rw[rblocks_nil1] at h3';exact .inl (RLoc.mem.2 (.inr (.inr (.inr h3'))))
theorem rdel_goes {R : RLoc} {S : Sto} {w w2 : World} {v2 : Value} {i m : Nat} (h : RStoreAt R S w) (hb : Below w.heap.size w w2) (hi : i < S.acts.length) (ho : w2.ownsRow 0 116 8 v2 (S.acts.length - 1) (actsL (S.acts.eraseIdx i) (R.rv.eraseIdx i))) (hm : v2.ownBlock = some m) (hml : w.heap.size ≤ m) :
    RGoes R {S with acts:=S.acts.take i ++S.acts.drop (i+1)} w (w2.setCell ⟨R.sb,2,none⟩ v2):=by
 have h2:=h.below hb;have hn:=h.ne_top;have hsl:=h.blk.lt;have hset:∀k,k≠R.sb→(w2.setCell ⟨R.sb,2,none⟩ v2).heap[k]? =w2.heap[k]? :=fun k hk=>Below.heap_setCell _ _ _ _ hk
 have hs:=rblocks_sub (List.eraseIdx_sublist R.rv i);rw[←List.eraseIdx_eq_take_drop_succ];refine⟨⟨R.sb,v2,R.pv,R.rv.eraseIdx i⟩,rfl,⟨h2.blk.set' 2 (by simp) v2,?_,row_heap h2.parts (fun k hk=>hset k (fun e=>hn.2.1 (by rw[hk,e]))),?_,fun j u b hu hb'=> ?_,?_⟩,((Goes.of_below hb).trans (Goes.setCell R.sb 2 v2 (RLoc.mem.2 (.inl rfl)))).change (fun k hk=> ?_)⟩
 · show World.ownsRow _ 0 _ 8 v2 (S.acts.eraseIdx i).length _
   rw[List.length_eraseIdx_of_lt hi];exact row_heap ho (fun k hk=>hset k (fun e=>by rw[hm] at hk;injection hk with hk;omega))
 · show(R.rv.eraseIdx i).length=(S.acts.eraseIdx i).length
   rw[List.length_eraseIdx_of_lt hi,List.length_eraseIdx_of_lt (by rw[h.len];exact hi),h.len]
 · have hu':(R.rv.eraseIdx i)[j]? =some u:=hu;have hb2:(S.acts.eraseIdx i)[j]? =some b:=hb';have key:∀q,R.rv[q]? =some u→S.acts[q]? =some b→(w2.setCell ⟨R.sb,2,none⟩ v2).ownsRow 0 199 6 u b.regs.length (regsL b.regs):=fun q hq hbq=>
    row_heap (h2.regs q u b hq hbq) (fun k hk=>hset k (h.ne_regs hq k hk).1)
   rw[List.getElem?_eraseIdx] at hu' hb2;by_cases hj:j<i
   · rw[if_pos hj] at hu' hb2;exact key j hu' hb2
   · rw[if_neg hj] at hu' hb2;exact key (j+1) hu' hb2
 · obtain⟨h1,h2',h3,h4,h5,h6⟩:=rfoot_nodup.1 h.once;rw[rfoot_nodup];refine⟨?_,h2',fun hq=>h3 (hs.subset hq),h4.sublist hs,fun k hk=> ?_,fun k hk hq=>h6 k hk (hs.subset hq)⟩
   · show v2.ownBlock≠some R.sb
     rw[hm];intro e;injection e with e;omega
   · have hk':v2.ownBlock=some k:=hk;rw[hm] at hk';injection hk' with hk';subst hk'
     exact⟨fun e'=>by have:=(h.parts.lt m e').2;omega,fun hq=>by have:=h.lt m (RLoc.mem.2 (.inr (.inr (.inr (hs.subset hq)))));omega⟩
 · rcases RLoc.mem.1 hk with h3 | h3 | h3 | h3
   · exact .inl (RLoc.mem.2 (.inl h3))
   · have h3':v2.ownBlock=some k:=h3;rw[hm] at h3';injection h3' with h3';subst h3';exact .inr hml
   · exact .inl (RLoc.mem.2 (.inr (.inr (.inl h3))))
   · exact .inl (RLoc.mem.2 (.inr (.inr (.inr (hs.subset h3)))))
end Go.Proofs.YtlkajejbfojkeaaGreatDoor
