/- PolicyAgain -/
import Derived.Test.YtbepkpjcjpmpmaaDoorALwPAToErrs
import Derived.Test.YtbepkpjcjpmpmaaDoorTie
import Derived.Test.YtbepkpjcjpmpmaaDoorCards
set_option linter.unusedSimpArgs false
set_option linter.unusedVariables false
set_option maxRecDepth 100000
set_option maxHeartbeats 16000000
namespace Go.Proofs.YtbepkpjcjpmpmaaDoor
open Go.ChangeShapes Go.WideShapes Go.ChangeAt Go.WideMaps Go.WideElems Go.RowKit Go.Joins
theorem policyAgain_lifted (os : Os) (started : os.Started) (H : Type) (enc : TypeId × Value → H) :
    ReturnsInHanded {} Tryd.checked os 3 .any (fun w args=>(Rows.policyAgainSpec.pre enc Tryd.prog Tryd.f3 [] false w args∧laidMetH Tryd.prog Rows.policyAgainRow.laid w)∧sizedMet enc Tryd.prog Tryd.f3 (OpenSpec.ofChange Rows.policyAgainSpec) false w args)
     (Rows.policyAgainSpec.post enc Tryd.prog Tryd.f3 false true false false):=by
 refine returnsInHanded_of_change_and (C:=Tryd.checked) (X:=fun w _=>laidMetH Tryd.prog Rows.policyAgainRow.laid w) (fun _ _ _ hh h=>h.of_heap hh) Tryd.own started (by kernel_rfl) Tryd.func3
  (ChangeSpec.witness_shaped (enc:=enc) (C:=Tryd.checked) (os:=os) (X:=fun w _=>laidMetH Tryd.prog Rows.policyAgainRow.laid w) false (World.doorLaid Tryd.prog 400 os) #[.slice none 0 0] 8 rfl (World.shaped_of_RefB (by kernel_rfl) (by kernel_rfl)) (by kernel_rfl) (by kernel_rfl) (by kernel_rfl)
    (laidMetH_of_parts3 (fuel:=8) (laidMet_of_run' 8 (by kernel_rfl) (by kernel_rfl)) (by kernel_rfl) (by kernel_rfl))) ?_
 intro W base args ds gs before hval0 hW _ hsz hL _;have hval:∀(j:Nat) t v,Tryd.f3.params[j]? =some t→args[j]? =some v→Value.okWide Tryd.prog W .any base t v:=hval0;have hpost:∀W',Below W.heap.size W W'→Rows.policyAgainSpec.post enc Tryd.prog Tryd.f3 false true false false W args (.bool true) W':=fun W' hb=>
  frame_post (by rw[Tryd.params3];decide+kernel) rfl rfl (fun ds h=>by rw[Tryd.params3] at h;match ds,h with | [d0],_=>exact⟨rfl,rfl,rfl⟩) hW hb
 obtain⟨p,q,hA0,hV,rfl,hfz,hnd⟩:=hW;have hA:DataW.TrodAll enc Tryd.prog W 0 (fun _=>true) true Tryd.f3.params.toList args.toList ds p:=hA0;rw[Tryd.params3] at hA hval;obtain⟨v0,d0,rfl,rfl,h0⟩:=trodAll_one hA;obtain⟨a1,n1,c1,rfl⟩:=okWide_slice Tryd.underlying22 (hval 0 _ v0 rfl rfl);obtain⟨row,hR⟩:=open_pcs h0;obtain⟨ea,hE⟩:=errs_of_laid (by rfl) hL
 exact(law_pagain _ row ea W hE hR).mono fun e W' ⟨he,hb⟩=>⟨_,he,hpost W' hb⟩
theorem policyAgain_said:Rows.PolicyAgainSaid:=
 OpenClaim.holds_of_wide 3 Tryd.f3 rfl rfl rfl rfl rfl rfl rfl ⟨rfl,rfl,rfl,rfl,rfl⟩ rfl rfl rfl rfl rfl (by kernel_rfl) Tryd.func3 (by kernel_rfl)
  (of_decide_eq_true (by kernel_rfl)) (by unfold Func.isWrapper;first | (rw[if_pos (by decide+kernel)];kernel_rfl) | (rw[if_neg (by decide+kernel)];exact⟨rfl,rfl⟩))
  (fun os started H enc _=>policyAgain_lifted os started H enc)
theorem policyAgain_holds:Rows.PolicyAgainCardSaid:=
 Claim7.holds_tied_plain_at .later [] _ true (true,_) true
  policyAgain_said (fun _ h=>by cases h) (by kernel_rfl) (fun _ h=>by cases h) policyAgain_row_tie rfl ⟨rfl,rfl⟩ (by kernel_rfl) rfl
  (fun f fn hf hfn=>by
    obtain rfl : f = 3 := Option.some.inj ((show Tryd.prog.funcNamed "liaison/liaisonlaw29.PolicyAgain" = some 3 by kernel_rfl).symm.trans hf) |>.symm
    obtain rfl:fn=Tryd.f3:=(Option.some.inj (Tryd.func3.symm.trans hfn)).symm;exact⟨by kernel_rfl,fun j t ht=>by
      rw[Tryd.params3] at ht;have hm:t∈[22]:=by simpa using Array.mem_of_getElem? ht
      have hall:([22].all fun u=> !Tryd.prog.wantsStandIn u)=true:=by kernel_rfl
      exact(show Tryd.prog.wantsStandIn t=false by simpa using List.all_eq_true.1 hall t hm)⟩)
  (by kernel_rfl)
#print axioms policyAgain_holds
end Go.Proofs.YtbepkpjcjpmpmaaDoor
