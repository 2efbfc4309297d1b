/- VdA, StepI, LdB -/
import Derived.Test.YtlkajejbfojkeaaGreatDoorPRfcBToLoS
import Derived.OwnWalkIn
import Derived.TacticsInMore
import Derived.LoopNIn
import Derived.LoopIn
import Derived.Shelf.RegionOpen
import Derived.RangeFuncWrites
import Derived.RangeFuncLeaves
import Derived.RangeFuncNested
import Derived.RangeFuncBound
import Derived.RangeFuncCalls
import Derived.OrdersIn
set_option linter.unusedSimpArgs false
set_option linter.unusedVariables false
set_option maxRecDepth 100000
set_option maxHeartbeats 16000000
namespace Go.Proofs.YtlkajejbfojkeaaGreatDoor
open Go.RowKit Go.Shelf
attribute [local go_sem] store_float Oper.semAt_some
def vDir (d s:Int):Int:=if d=1∧s=5 then 9 else if d=2∧s=5 then 11 else if d=2∧(s=1∨s=4) then 10 else 0
theorem vdir_of (d p q s h:Int) (w:World):Calls Tryz.prog 237 #[.int .i64 d,.agg #[p,q,s,h]] w (Makes (.int .i64 (vDir d s)) w):=by
 go_enter Tryz.func237,Tryz.ntmps237;go_wp2_with fail
 all_goals (go_ret;refine⟨ret_int ?_,by go_grown⟩;(try simp only[beq_iff_eq,beq_eq_false_iff_ne,ne_eq] at *);unfold vDir;(try simp[*]);(try omega))
theorem rvdir_of (d s:Int) (w:World):Calls Tryz.prog 153 #[.int .i64 d,.int .i64 s] w (Gives (.int .i64 (vDir d s)) w):=by
 go_enter Tryz.func153,Tryz.ntmps153;go_wp2_with fail
 all_goals (go_ret;refine⟨ret_int ?_,rfl⟩;(try simp only[beq_iff_eq,beq_eq_false_iff_ne,ne_eq] at *);unfold vDir;(try simp[*]);(try omega))
def vDirsN (d:Int) (rs:List SReg) (k:Nat):List (Nat×Int):=(List.range k).filterMap fun i=>match rs[i]? with
 | none=>none
 | some r=>if vDir d r.seat.s=0 then none else some (i,vDir d r.seat.s)
theorem vDirsN_succ {d:Int} {rs:List SReg} {k:Nat} {r:SReg} (h:rs[k]? =some r):vDirsN d rs (k+1)=vDirsN d rs k ++(if vDir d r.seat.s=0 then[] else[(k,vDir d r.seat.s)]):=by
 unfold vDirsN;rw[List.range_succ,List.filterMap_append];congr 1;simp only[List.filterMap_cons,List.filterMap_nil,h];split<;>simp_all
theorem vDirsN_len {d:Int} {rs:List SReg} {k:Nat}:(vDirsN d rs k).length≤k:=by
 unfold vDirsN;exact Nat.le_trans (List.length_filterMap_le _ _) (by simp)
def VDir (d:Int) (rs:List SReg):Type:={x:Nat×Int // ∃r,rs[x.1]? =some r∧x.2=vDir d r.seat.s∧x.2≠0}
def VDir.x {d:Int} {rs:List SReg} (v:VDir d rs):Nat×Int:=v.1
def KeepL (ks:List Nat) (W W':World):Prop:=W.heap.size≤W'.heap.size∧∀k∈ks,k<W.heap.size→W'.heap[k]? =W.heap[k]?
theorem keepL_t {ks:List Nat} {A B C:World} (h:KeepL ks A B) (k:KeepL ks B C):KeepL ks A C:=⟨Nat.le_trans h.1 k.1,fun j hj hl=>(k.2 j hj (Nat.lt_of_lt_of_le hl h.1)).trans (h.2 j hj hl)⟩
theorem keepL_below {ks:List Nat} {W W':World} (h:Below W.heap.size W W'):KeepL ks W W':=⟨h.size,fun k _ hl=>h.block k hl⟩
theorem keepL_blk {ks:List Nat} {W W':World} {b:Nat} {C:Array Value} (h:KeepL ks W W') (hb:Blk W b C) (hk:b∈ks):Blk W' b C:=hb.same h.1 (h.2 b hk hb.lt)
theorem keepL_cell {ks:List Nat} {W W':World} {b o:Nat} {v:Value} (h:KeepL ks W W') (hc:W.cell? ⟨b,o,none⟩=some v) (hk:b∈ks):W'.cell? ⟨b,o,none⟩=some v:=by
 have e:=h.2 b hk (lt_of_cell hc);rw[←hc];simp[World.cell?,e]
theorem abide_below {β:Type} {B:Nat} {J:β→World→Prop} (hJ:AbidesFrom B J) {s:β} {W W':World} (hs:J s W) (hb:Below W.heap.size W W'):J s W':=
 hJ s W W' none hs ⟨hb.os,hb.tape,hb.output,hb.size,fun k hk _=>hb.block k hk⟩ (fun r e=>by cases e)
theorem RegC.keepL {ks:List Nat} {W W':World} {b o:Nat} {r:SReg} (h:RegC W b o r) (hk:KeepL ks W W') (hb:b∈ks):RegC W' b o r:=by
 obtain⟨h0,h1,h2,h3,h4,h5⟩:=h;exact⟨keepL_cell hk h0 hb,keepL_cell hk h1 hb,keepL_cell hk h2 hb,keepL_cell hk h3 hb,keepL_cell hk h4 hb,keepL_cell hk h5 hb⟩
theorem dirs_of (an aq oc dp:Int) (ex:Nat) (pa de:Int) (va:Option Addr) (vn vc:Nat) (d:Int) (w:World):Calls Tryz.prog 154 #[.agg #[an,aq,oc,dp,.float .f64 ex,pa,de,.slice va vn vc],.int .i64 d] w fun e w'=>e=.returned (.func (.func 236) #[] #[.pointer (some ⟨w.heap.size,0,none⟩),.pointer (some ⟨w.heap.size+1,0,none⟩)])∧w'=(w.alloc (.cells #[an,aq,oc,dp,.float .f64 ex,pa,de,.slice va vn vc] 51)).alloc (.cells #[d] 3):=by
 go_enter Tryz.func154,Tryz.ntmps154;go_wp2_with fail;go_ret;exact⟨rfl,rfl⟩
theorem dirs_seq (n : Nat) (hn : 2 ≤ n) (ks : List Nat) (A D : Nat) (an aq oc dp : Int) (ex : Nat) (pa de : Int) (va : Option Addr) (vc : Nat) (d : Int) (rs : List SReg) (w : World)
    (hA:Blk w A #[an,aq,oc,dp,.float .f64 ex,pa,de,.slice va rs.length vc]) (hD:Blk w D #[d])
    (hr:∀(j:Nat) (r:SReg),rs[j]? =some r→∃g,va=some ⟨g,0,none⟩∧g∈ks∧RegC w g (j*6) r) (hkA:A∈ks) (hkD:D∈ks) (hl:rs.length≤6):
    SeqStopsK Fence.wide n Tryz.prog 236 #[.pointer (some ⟨A,0,none⟩),.pointer (some ⟨D,0,none⟩)] (fun v:VDir d rs=> #[Value.int .i64 (v.x.1:Int),Value.int .i64 v.x.2]) (KeepL ks) (fun xs=>xs.map VDir.x=vDirsN d rs rs.length) (fun _=>True) rs.length w:=by
 intro l J Jx W hW hJ hJx hY h0;have HA:=qq (hA.below hW);have HD:=qq (hD.below hW);have HR:Hid (∀(j:Nat) (r:SReg),rs[j]? =some r→∃g,va=some ⟨g,0,none⟩∧g∈ks∧g<W.heap.size∧RegC W g (j*6) r):=qq (fun j r hj=>by
   obtain⟨g,h1,h2,h3⟩:=hr j r hj;have hg:=lt_of_cell h3.1;exact⟨g,h1,h2,Nat.lt_of_lt_of_le hg hW.size,h3.below hW hg⟩)
 have HV:=qq (fun p q s h W=>vdir_of d p q s h W);obtain⟨m,hm⟩:∃m,m=rs.length:=⟨_,rfl⟩
 rw[←hm] at HA hY hl⊢;have HM:=qq hm;clear hA hD hr hW hm;have qa:=HA.out.cell;have qd:=HD.out.cell;have q7:=qa 7;refine callsIn_of_wp Tryz.func236 rfl trivial ?_ rfl;simp only[Tryz.ntmps236,List.size_toArray,List.length_cons,List.length_nil,Nat.reduceAdd,Nat.reduceSub,Array.replicate_succ,Array.replicate_zero,List.push_toArray,List.append_toArray,List.nil_append,List.cons_append]
 gi_wp2
 clear qa qd q7
 gi_loopw [10] (fun i wr=>∃(k:Nat) (ys:List (VDir d rs)),k≤m∧i=.int .i64 (k:Int)∧Hid (ys.map VDir.x=vDirsN d rs k)∧Hid (KeepL ks W wr)∧J ys wr) (fun i _=>m - (intOf i).toNat)
 case atStart=>exact⟨0,[],by omega,rfl,qq rfl,qq ⟨Nat.le_refl _,fun _ _ _=>rfl⟩,h0⟩
 case round=>
  obtain⟨k,ys,hk,rfl,HY,HK,hj⟩:=hrel;by_cases hlt:k<m
  · have hki:(k:Int)<(m:Int):=by omega
    have hk0:(0:Int)≤(k:Int):=by omega
    obtain⟨r,hrk⟩:∃r,rs[k]? =some r:=⟨_,List.getElem?_eq_getElem (by rw[←HM.out];exact hlt)⟩
    obtain⟨g,rfl,hgk,hgl,hgc⟩:=HR.out k r hrk;have hat:=hgc.keepL HK.out hgk;have HS:=qq (vDirsN_succ (d:=d) hrk);have hd0:wr.cell? ⟨D,0,none⟩=some (.int .i64 d):=(keepL_blk HK.out HD.out hkD).cell 0;have hdl:=lt_of_cell hd0;have hgl2:g<wr.heap.size:=Nat.lt_of_lt_of_le hgl HK.out.1;obtain⟨rn,rp,⟨sp,sd,ss,sh⟩⟩:=r;obtain⟨p0,p1,p2,p3,p4,p5⟩:=hat;dsimp only at p0 p1 p2 p3 p4 p5 HS hdl
    have HJ:=qq hj;have HRK:=qq hrk;clear hrk hgc hgl hj
    gi_wp2_with fail
    refine⟨trivial,fun _=>by omega,?_⟩;refine(callsIn_wide.2 (HV.out sp sd ss sh _)).mono ?_;rintro e w3 ⟨rfl,hb3⟩;have HB3:=qq (below_then (show Below wr.heap.size wr _ from(Below.refl wr.heap.size wr).alloc (Nat.le_refl _) (.cells #[rn,rp,sp,sd,ss,sh] 55)) hb3);have HK3:=qq (keepL_t HK.out (keepL_below HB3.out));have hj3:=abide_below hJ HJ.out HB3.out;have HJ3:=qq hj3
    obtain⟨z,hz⟩:∃z,z=vDir d ss:=⟨_,rfl⟩
    rw[←hz] at HS⊢;have HZ:=qq hz;clear hb3 hz;by_cases h0z:z=0
    · subst h0z;rw[if_pos rfl,List.append_nil] at HS
      gi_wp2_with fail
      refine⟨fun _ h=>(by cases h),?_⟩
      gi_wp2_with fail
      go_roundw
      case rel=>exact⟨k+1,ys,by omega,by go_num,qq (by rw[HS.out];exact HY.out),HK3,HJ3.out⟩
      case measure=>simp[intOf];omega
    · rw[if_neg h0z] at HS;have hzb:(z !=0)=true:=by simpa using h0z
      obtain⟨fn,tmps,assign,body,hy,hR⟩:=hY ys ⟨(k,z),⟨_,HRK.out,HZ.out,h0z⟩⟩ w3 HJ3.out (by have h1:=congrArg List.length HY.out;rw[List.length_map] at h1;rw[h1];exact Nat.lt_of_le_of_lt vDirsN_len hlt);dsimp only[VDir.x] at hy
      gi_wp2_with fail
      refine⟨fun _=>by omega,hR.mono ?_⟩;rintro e W4 (⟨rfl,hJ4,hkp⟩ | ⟨rfl,hJx4⟩)
      · have HJ4:=qq hJ4;have HK4:=qq (keepL_t HK3.out hkp);clear hJ4 hkp
        gi_wp2_with fail
        go_roundw
        case rel=>exact⟨k+1,_,by omega,by go_num,qq (by rw[HS.out,List.map_append,HY.out];rfl),HK4,HJ4.out⟩
        case measure=>simp[intOf];omega
      · gi_wp2_with fail
        refine bodyPost_ret (results_none rfl _ _ _) rfl ?_;exact⟨⟨_,rfl⟩,.inr ⟨_,trivial,hJx4⟩⟩
  · obtain rfl:k=m:=by omega
    have HJ:=qq hj;clear hj
    gi_wp2_with fail
    go_end0;exact⟨⟨_,rfl⟩,.inl ⟨_,HY.out,HJ.out⟩⟩
section
variable {P:Program} {ops:Array Oper} {Q:Exit→Act→World→Prop} {md:Region.Mode} {S:World→Prop} {ex:Nat→Bool}
def wpAnyX (P:Program) (md:Region.Mode) (ops:Array Oper) (Q:Exit→Act→World→Prop) (ex:Nat→Bool) (S:World→Prop):Nat→Array Bool→Act→World→Prop
 | 0,listed,a,w=>Region.ready md ops listed=[]∧Q .normal a w
 | fuel+1,listed,a,w=>
  (Region.ready md ops listed=[]→Q .normal a w)∧
  ∀i∈Region.ready md ops listed,wpOp P ops Q i (fun a' w'=>(ex i=true∨S w')∧wpAnyX P md ops Q ex S fuel (listed.setIfInBounds i true) a' w') a w
theorem wpAny_of_X:∀(fuel:Nat) (listed:Array Bool) (a:Act) (w:World),wpAnyX P md ops Q ex S fuel listed a w→wpAny P md ops Q fuel listed a w
 | 0,_,_,_,h=>h
 | fuel+1,_,_,_,h=>⟨h.1,fun i hi=>wpOp_mono (fun a' w' h'=>wpAny_of_X fuel _ a' w' h'.2) (h.2 i hi)⟩
def waitsX (md:Region.Mode) (ops:Array Oper) (ex:Nat→Bool) (i:Nat):Bool:=(List.range ops.size).all fun j=> !ex j || match ops[j]? with
 | none=>true
 | some oj=>oj.after.any (fun e=>Region.binds md e && e.on==i)
theorem wpAnyX_first {i : Nat} {oi : Oper} {v : Value} (hi : ops[i]? = some oi) (hwx : waitsX md ops ex i = true) (hsel : ∀ (j : Nat) (o : Oper) cs b, ops[j]? = some o → o.op ≠ .select cs b)
    (hQ:∀c a w,Q (.panic c) (a.put oi.dst v) w→Q (.panic c) a w):
    ∀(fuel:Nat) (listed:Array Bool) (a:Act) (w:World),
     (∀j oj,ops[j]? =some oj→j≠i→listed.getD j true=false→(∀e∈oj.after,Region.binds md e=true→e.on≠i)→oi.apart ops oj=true)→
     i∈Region.ready md ops listed→YieldsIf P ops S oi v a→S w→
     wpAnyX P md ops Q ex S fuel (listed.setIfInBounds i true) (a.put oi.dst v) w→wpAnyX P md ops Q ex S (fuel+1) listed a w:=by
 intro fuel
 induction fuel with
 | zero=>
  intro listed a w _ hr hy hS H;refine⟨fun h=>(by rw[h] at hr;cases hr),fun j hj=> ?_⟩;by_cases hji:j=i
  · subst hji;exact hy.wpOp hi hS ⟨.inr hS,H⟩
  · have:=ready_mono hj hji;rw[H.1] at this
    cases this
 | succ fuel ih=>
  intro listed a w hfree hr hy hS H;refine⟨fun h=>(by rw[h] at hr;cases hr),fun j hj=> ?_⟩;by_cases hji:j=i
  · subst hji;exact hy.wpOp hi hS ⟨.inr hS,H⟩
  · obtain⟨hjun,oj,hoj,hall⟩:=mem_ready.1 hj;have hnot:∀e∈oj.after,Region.binds md e=true→e.on≠i:=fun e he hb heq=>by
     have h1:=hall e he hb;have h0:=(mem_ready.1 hr).1;rw[heq] at h1;rcases Nat.lt_or_ge i listed.size with h' | h'
     · simp[h'] at h0 h1;rw[h0] at h1;cases h1
     · simp[Array.getElem?_eq_none h'] at h1
    have hl:ex j=false:=by
     cases hx:ex j with
     | false=>rfl
     | true=>
      have h1:=List.all_eq_true.1 hwx j (List.mem_range.2 (Array.getElem?_eq_some_iff.1 hoj).1);rw[hx,hoj] at h1;simp only[Bool.not_true,Bool.false_or] at h1;obtain⟨e,he,hb⟩:=Array.any_eq_true'.1 h1;simp only[Bool.and_eq_true,beq_iff_eq] at hb;exact absurd hb.2 (hnot e he hb.1)
    have h1:=wpOp_mono (K':=fun a' w'=>S w'∧wpAnyX P md ops Q ex S fuel ((listed.setIfInBounds i true).setIfInBounds j true) a' w') (fun a' w' h'=>⟨h'.1.resolve_left (by rw[hl];simp),h'.2⟩) (H.2 j (ready_mono hj hji));have h2:=wpOp_putIf hoj (hfree j oj hoj hji hjun hnot) (fun cs b=>hsel i oi cs b hi) (fun cs b=>hsel j oj cs b hoj) hQ hy h1
    refine wpOp_mono (fun a' w' h3=>⟨.inr h3.2.1,ih (listed.setIfInBounds j true) a' w' (fun k ok hk hki hun hno=>hfree k ok hk hki ?_ hno) (ready_mono hr (Ne.symm hji)) h3.1 h3.2.1 ?_⟩) h2
    · by_cases hjk:j=k
      · subst hjk;exact hjun
      · rw[getD_set_ne true hjk] at hun;exact hun
    · rw[Array.setIfInBounds_comm _ _ hji];exact h3.2.2
theorem takeX {fuel : Nat} {listed : Array Bool} {a : Act} {w : World} {oi : Oper} {d : Option Tmp} {v : Value}
    (i:Nat) (hi:ops[i]? =some oi) (hd:oi.dst=d) (hS:S w) (hy:∀w,S w→(execOp a.eval oi).run P w=.ok (.value v) w) (h:wpAnyX P md ops Q ex S fuel (listed.setIfInBounds i true) (a.put d v) w)
    (hs:Region.noSelect ops=true:=by kernel_rfl) (hf:Region.free md ops listed i=true:=by kernel_rfl) (hr:(Region.ready md ops listed).contains i=true:=by kernel_rfl) (hwx:waitsX md ops ex i=true:=by kernel_rfl)
    (hQ:∀c a w,Q (.panic c) (a.put oi.dst v) w→Q (.panic c) a w:=by exact fun _ _ _ h=>h) (hw:Region.wanted oi (yielded ops a.tmps)=true:=by rfl):wpAnyX P md ops Q ex S (fuel+1) listed a w:=by
 subst hd;exact wpAnyX_first hi hwx (Region.noSelect_spec hs) hQ fuel listed a w (Region.free_spec hi hf) (by simpa using hr) (.inl ⟨hw,hy⟩) hS h
theorem doneX {listed:Array Bool} {a:Act} {w:World} (hr:Region.ready md ops listed=[]) (h:Q .normal a w):∀fuel,wpAnyX P md ops Q ex S fuel listed a w
 | 0=>⟨hr,h⟩
 | _+1=>⟨fun _=>h,by rw[hr];simp⟩
theorem one_X {fuel : Nat} {listed : Array Bool} {a : Act} {w : World} (i : Nat) (hr : Region.ready md ops listed = [i])
    (h:wpOp P ops Q i (fun a' w'=>(ex i=true∨S w')∧wpAnyX P md ops Q ex S fuel (listed.setIfInBounds i true) a' w') a w):wpAnyX P md ops Q ex S (fuel+1) listed a w:=
 ⟨fun h0=>absurd (hr▸h0) (by simp),fun k hk=>by
   rw[hr] at hk;obtain rfl:k=i:=by simpa using hk
   exact h⟩
theorem pure_X {fuel : Nat} {listed : Array Bool} {a : Act} {w : World} {oi : Oper} {d : Option Tmp} {v : Value} (i : Nat) (hi : ops[i]? = some oi) (hd : oi.dst = d) (hS : S w) (hrun : (execOp a.eval oi).run P w = .ok (.value v) w)
    (h:wpAnyX P md ops Q ex S fuel (listed.setIfInBounds i true) (a.put d v) w) (hr:Region.ready md ops listed=[i]:=by kernel_rfl) (hw:Region.wanted oi (yielded ops a.tmps)=true:=by rfl):wpAnyX P md ops Q ex S (fuel+1) listed a w:=
 one_X i hr (wpOp_alone i v _ hi hd hw hrun (show _ from⟨.inr hS,h⟩))
theorem new_X {fuel : Nat} {listed : Array Bool} {a : Act} {w : World} {oi : Oper} {d : Option Tmp} (i : Nat) (v : Value) (C : Array Value) (T : TypeId) (hi : ops[i]? = some oi) (hd : oi.dst = d) (hrun : (execOp a.eval oi).run P w = .ok (.value v) (w.alloc (.cells C T))) (hS : S (w.alloc (.cells C T)))
    (h:S (w.alloc (.cells C T))→Blk (w.alloc (.cells C T)) w.heap.size C→wpAnyX P md ops Q ex S fuel (listed.setIfInBounds i true) (a.put d v) (w.alloc (.cells C T))) (hr:Region.ready md ops listed=[i]:=by kernel_rfl)
    (hw:Region.wanted oi (yielded ops a.tmps)=true:=by rfl):wpAnyX P md ops Q ex S (fuel+1) listed a w:=
 one_X i hr (wpOp_alone i v _ hi hd hw hrun (show _ from⟨.inr hS,h hS (Blk.fresh _ _ _ _ rfl)⟩))
theorem set_X {fuel : Nat} {listed : Array Bool} {a : Act} {w : World} {oi : Oper} (i : Nat) (w1 : World) (hi : ops[i]? = some oi) (hd : oi.dst = none) (hrun : (execOp a.eval oi).run P w = .ok .skip w1) (hS : ex i = true ∨ S w1) (h : wpAnyX P md ops Q ex S fuel (listed.setIfInBounds i true) a w1)
    (hr:Region.ready md ops listed=[i]:=by kernel_rfl) (hw:Region.wanted oi (yielded ops a.tmps)=true:=by rfl):wpAnyX P md ops Q ex S (fuel+1) listed a w:=
 one_X i hr (by
   refine wpOp_step hi (fun K' hK=> ?_);rw[if_pos hw];unfold Oper.wp;rw[hrun];refine hK _ _ ⟨hS,?_⟩;rw[hd];exact h)
end
section
variable {P:Program} {ops:Array Oper} {Q:Exit→Act→World→Prop} {l n:Nat}
theorem in_round_op {o:Oper} {a:Act} {w:World} {K K':Act→World→Prop} (hnd:∀c,o.op≠.defer c) (hK:∀a w,K a w→K' a w) (h:o.wp P a w K Q):o.wpIn (Fence.wide.inRound l) n P a w K' Q:=by
 refine⟨fun _ _=>trivial,?_⟩;rw[Oper.semAt_eq _ _ _ hnd];unfold Oper.wp at h;generalize(execOp a.eval o).run P w=r at*;have hd:∀{X:Prop},(Fence.wide.inRound l).depth.isSome=true→X:=fun h=>by simp[Fence.inRound,Fence.wide] at h
 cases r with
 | ok x w'=>
  cases x<;>simp only[Oper.upon,Oper.uponIn] at h⊢
  case value v=>exact hK _ _ h
  case skip=>exact hK _ _ h
  case defer d=>exact hK _ _ h
  case enter f args=>
   have h2:=(callsIn_wide (n:=n - 1)).2 h;have h3:=CallsIn.mono h2 (R':=fun e w''=>match e with | .returned v=>K' (a.put o.dst v) w'' | .panicked chain=>Q (.panic chain) a w'' | .outgrown=>LetsOut Q) (fun e w'' he=>by cases e<;>first | exact hK _ _ he | exact he);refine⟨hd,CallsIn.mono (show CallsIn (Fence.wide.inRound l) (n - 1) P f args w' _ from h3) (fun e w'' he=>by cases e<;>exact he)⟩
  case row row args=>exact⟨hd,fun c cs _=>let⟨v,w2,hr,hs⟩:=h c cs;⟨v,w2,hK _ _ hr,(stepsIn_wide.2 hs:StepsIn (Machine.fenced P Fence.wide) P _ _)⟩⟩
 | halt x w'=>cases x<;>simp only[Oper.upon,Oper.uponIn] at h⊢<;>exact h
theorem in_round_ops (hnd:∀(i:Nat) (o:Oper) c,ops[i]? =some o→o.op≠.defer c) (hQ:¬LetsOut Q):∀(is:List Nat) (a:Act) (w:World),wpOps P ops Q is a w→wpOpsIn (Fence.wide.inRound l) n P ops Q is a w
 | [],_,_,h=>h
 | i::rest,a,w,h=>by
  simp only[wpOps,wpOpsIn] at h⊢
  cases ho:ops[i]? with
  | none=>simp only[ho] at h⊢;exact in_round_ops hnd hQ rest a w h
  | some o=>
   simp only[ho] at h⊢;by_cases hw:Region.wanted o (yielded ops a.tmps)=true
   · simp only[hw,if_true] at h⊢;exact in_round_op (hnd i o · ho) (fun a w=>in_round_ops hnd hQ rest a w) (h.resolve_right fun h2=>hQ h2.2)
   · simp only[hw,if_false,Bool.false_eq_true] at h⊢;exact⟨fun _ _=>trivial,in_round_ops hnd hQ rest _ w h⟩
theorem calls_inRound {f:FuncId} {args:Array Value} {w:World} {R:Ending→World→Prop} (h:Calls P f args w R):CallsIn (Fence.wide.inRound l) n P f args w R:=(callsIn_wide.2 h:CallsIn Fence.wide n P f args w R)
theorem reg_startI {id : Nat} {a : Act} {w : World} (F E : World → Prop) (hm : P.follows .mixedOrders = true) (hnd : (ops.all fun o => match o.op with | .defer _ => false | _ => true) = true) (hF : F w.drew) (hE : E w.drew)
    (ex:Nat→Bool) (h:∀w1,F w1→E w1→wpAnyX P .any ops (fun e a w=>e=.normal∧Q e a w) ex F ops.size (Array.replicate ops.size false) a w1):(Code.region id ops true).wpIn (Fence.wide.inRound l) n P Q a w:=by
 refine wpIn_mono (wpIn_region_draw (Q:=fun e a w=>e=.normal∧Q e a w) fun t=> ?_) (fun e a w h=>h.2);simp only[Region.schedule,hm,Bool.true_or,if_true];refine in_round_ops (fun i o c ho e=> ?_) (fun h=>by obtain⟨_,_,h,_⟩:=h;cases h) _ _ _ (wpAny_sound ops.size t _ a _ (wpAny_of_X _ _ _ _ (h _ hF hE)));obtain⟨hi,rfl⟩:=Array.getElem?_eq_some_iff.1 ho;have:=Array.all_eq_true.1 hnd i hi;rw[e] at this
 simp at this
end
theorem noPanic {Q:Exit→Act→World→Prop} {d:Option Tmp} {v:Value}:∀(c:List PanicEntry) (a:Act) (w:World),(Exit.panic c=.normal∧Q (.panic c) (a.put d v) w)→(Exit.panic c=.normal∧Q (.panic c) a w):=fun _ _ _ h=>(by cases h.1)
theorem app_X {Q : Exit → Act → World → Prop} {ops : Array Oper} {md : Region.Mode} {ex : Nat → Bool} {S : World → Prop} {fuel : Nat} {listed : Array Bool} {a : Act} {w : World} {oi : Oper} {d : Option Tmp} (i : Nat) (hi : ops[i]? = some oi) (hd : oi.dst = d) (hgd : oi.guard = none) (s x : Operand) (t : TypeId)
    (ho:oi.op=.call {callee:=.builtin .append,args:= #[s,x],argTypes:= #[t,t]})
    (base:Nat) (e:TypeId) (inf:TypeInfo) (z:Value) (size bytes:Nat) (ht:Tryz.prog.underlying t=some (.slice e)) (hinf:Tryz.prog.info? e=some inf) (hz:inf.zero=some z)
    (hsize:inf.size=size) (hby:inf.bytes=bytes) (hzs:z.cells.size=size) (hsz:0<size)
    (v:Value) (n:Nat) (xs:List Value) (hs:a.eval s=v) (hown:w.ownsRow base e size v n xs)
    (ad:Addr) (m c:Nat) (news:List Value) (hx:a.eval x=.slice (some ad) m c) (hl:news.length=m*size) (hnews:∀j u,news[j]? =some u→w.cell? (ad.add j)=some u) (h1:∀u∈news,u.oneCell'=true)
    (h63:n+m≤maxLen) (hbytes:(n+m)*bytes≤140737488355328) (hbase:base≤w.heap.size)
    (h:∀v' w',w'.ownsRow base e size v' (n+m) (xs ++news)→w.grownBy w' v.ownBlock→(v'.ownBlock=v.ownBlock∨v'.ownBlock=some w.heap.size)→(ex i=true∨S w')∧wpAnyX Tryz.prog md ops Q ex S fuel (listed.setIfInBounds i true) (a.put d v') w')
    (hr:Region.ready md ops listed=[i]:=by kernel_rfl):wpAnyX Tryz.prog md ops Q ex S (fuel+1) listed a w:=by
 subst hd;refine one_X i hr (wpOp_step hi (fun K' hK=> ?_));refine step_app hgd s x t ho base e inf z size bytes ht hinf hz hsize hby hzs hsz v n xs hs hown ad m c news hx hl hnews h1 h63 hbytes hbase ?_;intro v' w' h2 h3 h4;exact hK _ _ (h v' w' h2 h3 h4)
open Go.RowKit
attribute [local go_sem] store_float
theorem RegC.grown {w w':World} {b o:Nat} {r:SReg} {row:Option Nat} (h:RegC w b o r) (hg:w.grownBy w' row) (hne:row≠some b):RegC w' b o r:=
 ⟨hg.cell h.1 (fun e=>hne e.symm),hg.cell h.2.1 (fun e=>hne e.symm),hg.cell h.2.2.1 (fun e=>hne e.symm),hg.cell h.2.2.2.1 (fun e=>hne e.symm),hg.cell h.2.2.2.2.1 (fun e=>hne e.symm),hg.cell h.2.2.2.2.2 (fun e=>hne e.symm)⟩
theorem lfind_none (L:SLoc) (S:Sto) (an aq rg:Int) (w:World) (h:StoreAt L S w) (hG:StoGood S) (hg:lGet S an aq=none):Calls Tryz.prog 163 #[.pointer (some ⟨L.sb,0,none⟩),.agg #[an,aq],.int .i64 rg] w (Makes (.tuple #[.agg #[.int .i64 0,.int .i64 0,.int .i64 0,.int .i64 0,.int .i64 0,.int .i64 0,.int .i64 0,.int .i64 0,.int .i64 0,.int .i64 0,.float .f64 0,.int .i64 0,.int .i64 0,.slice none 0 0,.int .i64 0,.int .i64 0],.bool false,.bool false]) w):=by
 have HF:=qq (fun W hW=>Find_no L S an aq W hW hG hg);have H:=qq h;clear h hG hg;go_enter Tryz.func163,Tryz.ntmps163;go_wp2_with fail;refine(HF.out _ (H.out.below (by go_grown))).mono ?_;rintro e w1 ⟨rfl,hb1⟩;have B1:Below w.heap.size w w1:=below_then (by go_grown) hb1;have hz:w.heap.size+1<w1.heap.size:=by have:=hb1.size;simp at this;omega
 have HT1:Hid (w1.heap[w.heap.size+1]? =some (.cells #[.int .i64 0,.int .i64 0,.int .i64 0,.int .i64 0,.int .i64 0,.int .i64 0,.int .i64 0,.int .i64 0,.int .i64 0,.int .i64 0,.float .f64 0,.int .i64 0,.int .i64 0,.slice none 0 0,.int .i64 0,.int .i64 0] 247 (0,0))):=qq ((hb1.block _ (by simp)).trans (by rw[show w.heap.size+1=(w.alloc (.cells #[an,aq] 36)).heap.size by simp];exact heap_alloc_new _ _))
 have HT0:Hid ((w1.alloc (.cells #[.int .i64 0,.int .i64 0,.int .i64 0,.int .i64 0,.float .f64 0,.int .i64 0,.int .i64 0,.slice none 0 0] 51)).heap[w.heap.size+1]? =some (.cells #[.int .i64 0,.int .i64 0,.int .i64 0,.int .i64 0,.int .i64 0,.int .i64 0,.int .i64 0,.int .i64 0,.int .i64 0,.int .i64 0,.float .f64 0,.int .i64 0,.int .i64 0,.slice none 0 0,.int .i64 0,.int .i64 0] 247 (0,0))):=qq ((((Below.refl w1.heap.size w1).alloc (Nat.le_refl _) _).block _ hz).trans HT1.out)
 clear hb1
 go_wp2_with (refine wpList_store_row rfl 247 (.tmp 6) (.tmp 30) rfl (w.heap.size+1) #[.int .i64 0,.int .i64 0,.int .i64 0,.int .i64 0,.int .i64 0,.int .i64 0,.int .i64 0,.int .i64 0,.int .i64 0,.int .i64 0,.float .f64 0,.int .i64 0,.int .i64 0,.slice none 0 0,.int .i64 0,.int .i64 0] rfl rfl 247 #[.int .i64 0,.int .i64 0,.int .i64 0,.int .i64 0,.int .i64 0,.int .i64 0,.int .i64 0,.int .i64 0,.int .i64 0,.int .i64 0,.float .f64 0,.int .i64 0,.int .i64 0,.slice none 0 0,.int .i64 0,.int .i64 0] HT0.out (by kernel_rfl) rfl (by simp[Value.oneCell']) ?_)
 obtain⟨HFr,hgr⟩:=row_end (cells:= #[.int .i64 0,.int .i64 0,.int .i64 0,.int .i64 0,.int .i64 0,.int .i64 0,.int .i64 0,.int .i64 0,.int .i64 0,.int .i64 0,.float .f64 0,.int .i64 0,.int .i64 0,.slice none 0 0,.int .i64 0,.int .i64 0]) HT0.out;obtain⟨q1,f1⟩:=HFr.out
 exact bodyPost_ret (v:=.tuple #[.agg #[.int .i64 0,.int .i64 0,.int .i64 0,.int .i64 0,.int .i64 0,.int .i64 0,.int .i64 0,.int .i64 0,.int .i64 0,.int .i64 0,.float .f64 0,.int .i64 0,.int .i64 0,.slice none 0 0,.int .i64 0,.int .i64 0],.bool false,.bool false]) (by simp[results,Tryz.results163,go_sem,q1,f1]) rfl ⟨rfl,(show Below w.heap.size w (World.alloc _ _) by go_grown).grown hgr (by first | omega | (simp;done) | (simp;omega)) (fun k hk=>by injection hk with hk;omega)⟩
theorem lfind_noreg (L:SLoc) (S:Sto) (na qa rg:Int) (i:Nat) (a:SAct) (w:World) (h:StoreAt L S w) (hG:StoGood S) (hg:lGet S na qa=some (i,a)) (hr:lReg a rg=none):Calls Tryz.prog 163 #[.pointer (some ⟨L.sb,0,none⟩),.agg #[na,qa],.int .i64 rg] w (Makes (.tuple #[.agg #[.int .i64 0,.int .i64 0,.int .i64 0,.int .i64 0,.int .i64 0,.int .i64 0,.int .i64 0,.int .i64 0,.int .i64 0,.int .i64 0,.float .f64 0,.int .i64 0,.int .i64 0,.slice none 0 0,.int .i64 0,.int .i64 0],.bool true,.bool false]) w):=by
 have HF:=qq (fun W hW=>Find_yes L S na qa i a W hW hG hg);have H:=qq h;have h6:=(hG.act a (lGet_some hg).2.2.1).len;obtain⟨ha1,ha2⟩:=(lGet_some hg).2.2.2;obtain⟨an,aq,oc,dp,ex,pa,de,rs⟩:=a;dsimp only at ha1 ha2 h6;subst ha1 ha2;unfold ActOut at HF;dsimp only[actC] at HF;have hc:rg<0∨(rs.length:Int)≤rg:=by
  unfold lReg at hr;split at hr
  · right;have:=List.getElem?_eq_none_iff.1 hr;dsimp only at this;omega
  · left;omega
 obtain⟨n,hn⟩:∃n,n=rs.length:=⟨_,rfl⟩
 rw[←hn] at hc HF;have HN:=qq hn;clear h hG hg hr hn h6;by_cases h0:rg<0
 · have d0:decide (rg<0)=true:=decide_eq_true h0;clear hc;go_enter Tryz.func163,Tryz.ntmps163;go_wp2_with fail;refine(HF.out _ (H.out.below (by go_grown))).mono ?_;rintro e w1 ⟨v',rfl,ho,hb1⟩;have B1:Below w.heap.size w w1:=below_then (by go_grown) hb1;have hz:w.heap.size+1<w1.heap.size:=by have:=hb1.size;simp at this;omega
   have HT1:Hid (w1.heap[w.heap.size+1]? =some (.cells #[.int .i64 0,.int .i64 0,.int .i64 0,.int .i64 0,.int .i64 0,.int .i64 0,.int .i64 0,.int .i64 0,.int .i64 0,.int .i64 0,.float .f64 0,.int .i64 0,.int .i64 0,.slice none 0 0,.int .i64 0,.int .i64 0] 247 (0,0))):=qq ((hb1.block _ (by simp)).trans (by rw[show w.heap.size+1=(w.alloc (.cells #[an,aq] 36)).heap.size by simp];exact heap_alloc_new _ _))
   obtain⟨va,vc,rfl,hlen,hrow⟩:=reg_row ho
   have HT0:Hid ((w1.alloc (.cells #[an,aq,oc,dp,.float .f64 ex,pa,de,.slice va n vc] 51)).heap[w.heap.size+1]? =some (.cells #[.int .i64 0,.int .i64 0,.int .i64 0,.int .i64 0,.int .i64 0,.int .i64 0,.int .i64 0,.int .i64 0,.int .i64 0,.int .i64 0,.float .f64 0,.int .i64 0,.int .i64 0,.slice none 0 0,.int .i64 0,.int .i64 0] 247 (0,0))):=qq ((((Below.refl w1.heap.size w1).alloc (Nat.le_refl _) _).block _ hz).trans HT1.out)
   clear hb1 ho hlen hrow
   go_wp2_with (refine wpList_store_row rfl 247 (.tmp 6) (.tmp 30) rfl (w.heap.size+1) #[.int .i64 0,.int .i64 0,.int .i64 0,.int .i64 0,.int .i64 0,.int .i64 0,.int .i64 0,.int .i64 0,.int .i64 0,.int .i64 0,.float .f64 0,.int .i64 0,.int .i64 0,.slice none 0 0,.int .i64 0,.int .i64 0] rfl rfl 247 #[.int .i64 0,.int .i64 0,.int .i64 0,.int .i64 0,.int .i64 0,.int .i64 0,.int .i64 0,.int .i64 0,.int .i64 0,.int .i64 0,.float .f64 0,.int .i64 0,.int .i64 0,.slice none 0 0,.int .i64 0,.int .i64 0] HT0.out (by kernel_rfl) rfl (by simp[Value.oneCell']) ?_)
   obtain⟨HFr,hgr⟩:=row_end (cells:= #[.int .i64 0,.int .i64 0,.int .i64 0,.int .i64 0,.int .i64 0,.int .i64 0,.int .i64 0,.int .i64 0,.int .i64 0,.int .i64 0,.float .f64 0,.int .i64 0,.int .i64 0,.slice none 0 0,.int .i64 0,.int .i64 0]) HT0.out;obtain⟨q1,f1⟩:=HFr.out
   exact bodyPost_ret (v:=.tuple #[.agg #[.int .i64 0,.int .i64 0,.int .i64 0,.int .i64 0,.int .i64 0,.int .i64 0,.int .i64 0,.int .i64 0,.int .i64 0,.int .i64 0,.float .f64 0,.int .i64 0,.int .i64 0,.slice none 0 0,.int .i64 0,.int .i64 0],.bool true,.bool false]) (by simp[results,Tryz.results163,go_sem,q1,f1]) rfl ⟨rfl,(show Below w.heap.size w (World.alloc _ _) by go_grown).grown hgr (by first | omega | (simp;done) | (simp;omega)) (fun k hk=>by injection hk with hk;omega)⟩
 · have d0:decide (rg<0)=false:=decide_eq_false h0;have d1:decide ((n:Int)≤rg)=true:=decide_eq_true (hc.resolve_left h0);clear hc;go_enter Tryz.func163,Tryz.ntmps163;go_wp2_with fail;refine(HF.out _ (H.out.below (by go_grown))).mono ?_;rintro e w1 ⟨v',rfl,ho,hb1⟩;have B1:Below w.heap.size w w1:=below_then (by go_grown) hb1;have hz:w.heap.size+1<w1.heap.size:=by have:=hb1.size;simp at this;omega
   have HT1:Hid (w1.heap[w.heap.size+1]? =some (.cells #[.int .i64 0,.int .i64 0,.int .i64 0,.int .i64 0,.int .i64 0,.int .i64 0,.int .i64 0,.int .i64 0,.int .i64 0,.int .i64 0,.float .f64 0,.int .i64 0,.int .i64 0,.slice none 0 0,.int .i64 0,.int .i64 0] 247 (0,0))):=qq ((hb1.block _ (by simp)).trans (by rw[show w.heap.size+1=(w.alloc (.cells #[an,aq] 36)).heap.size by simp];exact heap_alloc_new _ _))
   obtain⟨va,vc,rfl,hlen,hrow⟩:=reg_row ho
   have HT0:Hid ((w1.alloc (.cells #[an,aq,oc,dp,.float .f64 ex,pa,de,.slice va n vc] 51)).heap[w.heap.size+1]? =some (.cells #[.int .i64 0,.int .i64 0,.int .i64 0,.int .i64 0,.int .i64 0,.int .i64 0,.int .i64 0,.int .i64 0,.int .i64 0,.int .i64 0,.float .f64 0,.int .i64 0,.int .i64 0,.slice none 0 0,.int .i64 0,.int .i64 0] 247 (0,0))):=qq ((((Below.refl w1.heap.size w1).alloc (Nat.le_refl _) _).block _ hz).trans HT1.out)
   clear hb1 ho hlen hrow
   go_wp2_with (refine wpList_store_row rfl 247 (.tmp 6) (.tmp 30) rfl (w.heap.size+1) #[.int .i64 0,.int .i64 0,.int .i64 0,.int .i64 0,.int .i64 0,.int .i64 0,.int .i64 0,.int .i64 0,.int .i64 0,.int .i64 0,.float .f64 0,.int .i64 0,.int .i64 0,.slice none 0 0,.int .i64 0,.int .i64 0] rfl rfl 247 #[.int .i64 0,.int .i64 0,.int .i64 0,.int .i64 0,.int .i64 0,.int .i64 0,.int .i64 0,.int .i64 0,.int .i64 0,.int .i64 0,.float .f64 0,.int .i64 0,.int .i64 0,.slice none 0 0,.int .i64 0,.int .i64 0] HT0.out (by kernel_rfl) rfl (by simp[Value.oneCell']) ?_)
   obtain⟨HFr,hgr⟩:=row_end (cells:= #[.int .i64 0,.int .i64 0,.int .i64 0,.int .i64 0,.int .i64 0,.int .i64 0,.int .i64 0,.int .i64 0,.int .i64 0,.int .i64 0,.float .f64 0,.int .i64 0,.int .i64 0,.slice none 0 0,.int .i64 0,.int .i64 0]) HT0.out;obtain⟨q1,f1⟩:=HFr.out
   exact bodyPost_ret (v:=.tuple #[.agg #[.int .i64 0,.int .i64 0,.int .i64 0,.int .i64 0,.int .i64 0,.int .i64 0,.int .i64 0,.int .i64 0,.int .i64 0,.int .i64 0,.float .f64 0,.int .i64 0,.int .i64 0,.slice none 0 0,.int .i64 0,.int .i64 0],.bool true,.bool false]) (by simp[results,Tryz.results163,go_sem,q1,f1]) rfl ⟨rfl,(show Below w.heap.size w (World.alloc _ _) by go_grown).grown hgr (by first | omega | (simp;done) | (simp;omega)) (fun k hk=>by injection hk with hk;omega)⟩
def SeatOut (a:SAct) (r:SReg) (nd rg:Int) (w:World) (e:Ending) (w':World):Prop:=∃va n vc,e=.returned (.tuple #[.agg #[r.n,r.p,r.seat.p,r.seat.d,r.seat.s,r.seat.h,a.an,a.aq,a.oc,a.dp,.float .f64 a.ex,a.pa,a.de,.slice va n vc,nd,rg],.bool true,.bool true])∧Below w.heap.size w w'
theorem lfind_yes (L:SLoc) (S:Sto) (na qa rg:Int) (i:Nat) (a:SAct) (r:SReg) (w:World) (h:StoreAt L S w) (hG:StoGood S) (hg:lGet S na qa=some (i,a)) (hr:lReg a rg=some r):Calls Tryz.prog 163 #[.pointer (some ⟨L.sb,0,none⟩),.agg #[na,qa],.int .i64 rg] w (SeatOut a r S.node rg w):=by
 have HF:=qq (fun W hW=>Find_yes L S na qa i a W hW hG hg);have H:=qq h;have h6:=(hG.act a (lGet_some hg).2.2.1).len;obtain⟨ha1,ha2⟩:=(lGet_some hg).2.2.2;obtain⟨an,aq,oc,dp,ex,pa,de,rs⟩:=a;dsimp only at ha1 ha2 h6;subst ha1 ha2;unfold ActOut at HF;dsimp only[actC] at HF;have HND:=qq (fun W hW=>node_of L S W hW);obtain⟨nd,hnd⟩:∃nd,nd=S.node:=⟨_,rfl⟩
 rw[←hnd] at HND⊢;have hc:0≤rg∧rs[rg.toNat]? =some r:=by
  unfold lReg at hr;split at hr
  · exact⟨by assumption,hr⟩
  · cases hr
 obtain⟨h0,hgr0⟩:=hc;obtain⟨j,rfl⟩:∃j:Nat,rg=j:=⟨rg.toNat,by omega⟩
 rw[Int.toNat_natCast] at hgr0;have hlt:=(List.getElem?_eq_some_iff.1 hgr0).1;obtain⟨n,hn⟩:∃n,n=rs.length:=⟨_,rfl⟩
 rw[←hn] at hlt HF h6;obtain⟨rn,rp,⟨sp,sd,ss,sh⟩⟩:=r;have HN:=qq hn;have HGR:=qq hgr0;have hj0:(0:Int)≤(j:Int):=by omega
 have hj1:(j:Int)<(n:Int):=by omega
 have d0:decide ((j:Int)<0)=false:=decide_eq_false (by omega);have d1:decide ((n:Int)≤(j:Int))=false:=decide_eq_false (by omega);have d2:decide (n≤j)=false:=decide_eq_false (by omega);clear h hG hg hr hn hgr0 h0 hnd;go_enter Tryz.func163,Tryz.ntmps163;go_wp2_with fail;refine(HF.out _ (H.out.below (by go_grown))).mono ?_;rintro e w1 ⟨v',rfl,ho,hb1⟩
 have B1:Below w.heap.size w w1:=below_then (by go_grown) hb1;have hz:w.heap.size+1<w1.heap.size:=by have:=hb1.size;simp at this;omega
 have HT1:Hid (w1.heap[w.heap.size+1]? =some (.cells #[.int .i64 0,.int .i64 0,.int .i64 0,.int .i64 0,.int .i64 0,.int .i64 0,.int .i64 0,.int .i64 0,.int .i64 0,.int .i64 0,.float .f64 0,.int .i64 0,.int .i64 0,.slice none 0 0,.int .i64 0,.int .i64 0] 247 (0,0))):=qq ((hb1.block _ (by simp)).trans (by rw[show w.heap.size+1=(w.alloc (.cells #[an,aq] 36)).heap.size by simp];exact heap_alloc_new _ _))
 obtain⟨va,vc,rfl,hlen,hrow⟩:=reg_row ho;obtain⟨g,rfl,hgl,hfz,hcell⟩:=hrow (by omega);have hat:=hcell j ⟨rn,rp,⟨sp,sd,ss,sh⟩⟩ HGR.out;have hgw:=(ho.lt g (by simp[Value.ownBlock])).1;have HA1:=qq (Blk.fresh w1 #[an,aq,oc,dp,.float .f64 ex,pa,de,.slice (some ⟨g,0,none⟩) n vc] 51 _ rfl)
 have HRC:Hid (RegC (World.drew (w1.alloc (.cells #[an,aq,oc,dp,.float .f64 ex,pa,de,.slice (some ⟨g,0,none⟩) n vc] 51))) g (j*6) ⟨rn,rp,⟨sp,sd,ss,sh⟩⟩):=qq (hat.below (by go_grown) hgl);have HSt:=qq (H.out.below (show Below w.heap.size w (World.drew (w1.alloc (.cells #[an,aq,oc,dp,.float .f64 ex,pa,de,.slice (some ⟨g,0,none⟩) n vc] 51))) by go_grown))
 have HB:Hid (Below w.heap.size w (World.drew (w1.alloc (.cells #[an,aq,oc,dp,.float .f64 ex,pa,de,.slice (some ⟨g,0,none⟩) n vc] 51)))):=qq (by go_grown)
 have HT0:Hid ((World.drew (w1.alloc (.cells #[an,aq,oc,dp,.float .f64 ex,pa,de,.slice (some ⟨g,0,none⟩) n vc] 51))).heap[w.heap.size+1]? =some (.cells #[.int .i64 0,.int .i64 0,.int .i64 0,.int .i64 0,.int .i64 0,.int .i64 0,.int .i64 0,.int .i64 0,.int .i64 0,.int .i64 0,.float .f64 0,.int .i64 0,.int .i64 0,.slice none 0 0,.int .i64 0,.int .i64 0] 247 (0,0))):=qq ((((Below.refl w1.heap.size w1).alloc (Nat.le_refl _) _).block _ hz).trans HT1.out)
 have hgn:¬w.heap.size+1=g:=by simp at hgw;omega
 clear hb1 ho hlen hcell hfz hat;have qA:=HA1.out.cell;go_wp2_with fail;clear qA;refine wp_region_held_drew (S:=fun w'=>Blk w' w1.heap.size #[an,aq,oc,dp,.float .f64 ex,pa,de,.slice (some ⟨g,0,none⟩) n vc]∧RegC w' g (j*6) ⟨rn,rp,⟨sp,sd,ss,sh⟩⟩) (by kernel_rfl) (⟨HA1.out.drew,HRC.out⟩) (fun hHeld=> ?_)
 generalize(World.drew (w1.alloc (.cells #[an,aq,oc,dp,.float .f64 ex,pa,de,.slice (some ⟨g,0,none⟩) n vc] 51)))=w2 at*;refine takeU (d:=some 32) 0 rfl rfl hHeld (fun w' hS'=>by have qA:=hS'.1.cell;obtain⟨c0,c1,c2,c3,c4,c5⟩:=hS'.2;dsimp only at c0 c1 c2 c3 c4 c5;clear hS';go_simp;(try rfl)) ?_;simp only[puts]
 refine takeU (d:=some 33) 1 rfl rfl hHeld (fun w' hS'=>by have qA:=hS'.1.cell;obtain⟨c0,c1,c2,c3,c4,c5⟩:=hS'.2;dsimp only at c0 c1 c2 c3 c4 c5;clear hS';go_simp;(try rfl)) ?_;simp only[puts];refine takeU (d:=some 34) 2 rfl rfl hHeld (fun w' hS'=>by have qA:=hS'.1.cell;obtain⟨c0,c1,c2,c3,c4,c5⟩:=hS'.2;dsimp only at c0 c1 c2 c3 c4 c5;clear hS';go_simp;(try rfl)) ?_;simp only[puts]
 refine takeU (d:=some 35) 3 rfl rfl hHeld (fun w' hS'=>by have qA:=hS'.1.cell;obtain⟨c0,c1,c2,c3,c4,c5⟩:=hS'.2;dsimp only at c0 c1 c2 c3 c4 c5;clear hS';go_simp;(try rfl)) ?_;simp only[puts];refine takeU (d:=some 36) 4 rfl rfl hHeld (fun w' hS'=>by have qA:=hS'.1.cell;obtain⟨c0,c1,c2,c3,c4,c5⟩:=hS'.2;dsimp only at c0 c1 c2 c3 c4 c5;clear hS';go_simp;(try rfl)) ?_;simp only[puts]
 refine takeU (d:=some 37) 5 rfl rfl hHeld (fun w' hS'=>by have qA:=hS'.1.cell;obtain⟨c0,c1,c2,c3,c4,c5⟩:=hS'.2;dsimp only at c0 c1 c2 c3 c4 c5;clear hS';go_simp;(try rfl)) ?_;simp only[puts];refine takeU (d:=some 38) 6 rfl rfl hHeld (fun w' hS'=>by have qA:=hS'.1.cell;obtain⟨c0,c1,c2,c3,c4,c5⟩:=hS'.2;dsimp only at c0 c1 c2 c3 c4 c5;clear hS';go_simp;(try rfl)) ?_;simp only[puts]
 refine takeU (d:=some 40) 8 rfl rfl hHeld (fun w' hS'=>by have qA:=hS'.1.cell;obtain⟨c0,c1,c2,c3,c4,c5⟩:=hS'.2;dsimp only at c0 c1 c2 c3 c4 c5;clear hS';go_simp;(try rfl)) ?_;simp only[puts];refine wpAnyH_call (d:=some 39) 7 94 _ _ [.pointer (some ⟨L.sb,0,none⟩)] rfl rfl (by kernel_rfl) rfl (enters_of Tryz.func94 (by kernel_rfl) rfl) (by rfl) (by rfl) ?_
 refine(HND.out _ HSt.out).mono ?_;rintro e w3 ⟨rfl,rfl⟩;refine⟨_,rfl,_,fun _ h=>h,hHeld,fun hHeld=> ?_⟩;simp only[Act.put,puts];refine takeU (d:=some 41) 9 rfl rfl hHeld (fun w' hS'=>by have qA:=hS'.1.cell;obtain⟨c0,c1,c2,c3,c4,c5⟩:=hS'.2;dsimp only at c0 c1 c2 c3 c4 c5;clear hS';go_simp;(try rfl)) ?_;simp only[puts];refine wpAnyH_all (rs:=[10]) (by kernel_rfl) (by simp) (fun j hj=> ?_)
 obtain rfl:j=10:=by simpa using hj
 refine wpOp_step rfl (fun K' hK=> ?_);rw[if_pos (by rfl)]
 refine wp_store_row 247 (.tmp 6) (.tmp 41) rfl (w.heap.size+1) #[.int .i64 rn,.int .i64 rp,.int .i64 sp,.int .i64 sd,.int .i64 ss,.int .i64 sh,.int .i64 an,.int .i64 aq,.int .i64 oc,.int .i64 dp,.float .f64 ex,.int .i64 pa,.int .i64 de,.slice (some ⟨g,0,none⟩) n vc,.int .i64 nd,.int .i64 j] rfl rfl 247 #[.int .i64 0,.int .i64 0,.int .i64 0,.int .i64 0,.int .i64 0,.int .i64 0,.int .i64 0,.int .i64 0,.int .i64 0,.int .i64 0,.float .f64 0,.int .i64 0,.int .i64 0,.slice none 0 0,.int .i64 0,.int .i64 0] HT0.out (by kernel_rfl) rfl (by simp[Value.oneCell']) ?_
 obtain⟨HFr,hgr⟩:=row_end (cells:= #[.int .i64 rn,.int .i64 rp,.int .i64 sp,.int .i64 sd,.int .i64 ss,.int .i64 sh,.int .i64 an,.int .i64 aq,.int .i64 oc,.int .i64 dp,.float .f64 ex,.int .i64 pa,.int .i64 de,.slice (some ⟨g,0,none⟩) n vc,.int .i64 nd,.int .i64 j]) HT0.out;have HB:=qq (HB.out.grown hgr HB.out.size (fun k hk=>by injection hk with hk;omega))
 have hHeld:(fun w'=>Blk w' w1.heap.size #[an,aq,oc,dp,.float .f64 ex,pa,de,.slice (some ⟨g,0,none⟩) n vc]∧RegC w' g (j*6) ⟨rn,rp,⟨sp,sd,ss,sh⟩⟩) (w2.setRow (w.heap.size+1) #[.int .i64 rn,.int .i64 rp,.int .i64 sp,.int .i64 sd,.int .i64 ss,.int .i64 sh,.int .i64 an,.int .i64 aq,.int .i64 oc,.int .i64 dp,.float .f64 ex,.int .i64 pa,.int .i64 de,.slice (some ⟨g,0,none⟩) n vc,.int .i64 nd,.int .i64 j]):=⟨hHeld.1.heap' hgr.size (hgr.block _ hHeld.1.lt (fun e=>by injection e with e;omega)),hHeld.2.grown hgr (fun e=>by injection e with e;omega)⟩
 refine hK _ _ ⟨hHeld,?_⟩;simp only[Act.put,puts];clear hK hgr;have HFr:=qq HFr;generalize w2.setRow (w.heap.size+1) #[.int .i64 rn,.int .i64 rp,.int .i64 sp,.int .i64 sd,.int .i64 ss,.int .i64 sh,.int .i64 an,.int .i64 aq,.int .i64 oc,.int .i64 dp,.float .f64 ex,.int .i64 pa,.int .i64 de,.slice (some ⟨g,0,none⟩) n vc,.int .i64 nd,.int .i64 j]=w4 at*
 refine takeU (d:=some 7) 11 rfl rfl hHeld (fun w' hS'=>by have qA:=hS'.1.cell;obtain⟨c0,c1,c2,c3,c4,c5⟩:=hS'.2;dsimp only at c0 c1 c2 c3 c4 c5;clear hS';go_simp;(try rfl)) ?_;simp only[puts];refine takeU (d:=some 8) 12 rfl rfl hHeld (fun w' hS'=>by have qA:=hS'.1.cell;obtain⟨c0,c1,c2,c3,c4,c5⟩:=hS'.2;dsimp only at c0 c1 c2 c3 c4 c5;clear hS';go_simp;(try rfl)) ?_;simp only[puts]
 refine wpAnyH_done (by kernel_rfl) ?_ _;clear hHeld;obtain⟨q1,f1⟩:=HFr.out;go_wp2_with fail;exact bodyPost_ret (v:=.tuple #[.agg #[rn,rp,sp,sd,ss,sh,an,aq,oc,dp,.float .f64 ex,pa,de,.slice (some ⟨g,0,none⟩) n vc,nd,j],.bool true,.bool true]) (by simp[results,Tryz.results163,go_sem,q1,f1]) rfl ⟨_,_,_,rfl,HB.out⟩
end Go.Proofs.YtlkajejbfojkeaaGreatDoor
