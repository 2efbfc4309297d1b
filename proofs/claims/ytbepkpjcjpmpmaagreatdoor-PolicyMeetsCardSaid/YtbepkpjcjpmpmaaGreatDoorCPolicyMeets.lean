/- PolicyMeets -/
import Derived.Test.YtbepkpjcjpmpmaaGreatDoorCLwPM
import Derived.Test.YtbepkpjcjpmpmaaGreatDoorCPcOToNmO
import Derived.Test.YtbepkpjcjpmpmaaGreatDoorASentToErrs
import Derived.Lib.SmallJoins
import Derived.Test.YtbepkpjcjpmpmaaGreatDoorTie
import Derived.Test.YtbepkpjcjpmpmaaGreatDoorCards
set_option linter.unusedSimpArgs false
set_option linter.unusedVariables false
set_option maxRecDepth 100000
set_option maxHeartbeats 16000000
namespace Go.Proofs.YtbepkpjcjpmpmaaGreatDoor
open Go.ChangeShapes Go.WideShapes Go.ChangeAt Go.WideMaps Go.WideElems Go.RowKit Go.Joins
theorem policyMeets_lifted (os : Os) (started : os.Started) (H : Type) (enc : TypeId × Value → H) :
    ReturnsInHanded {} Tryz.checked os 5 .any (fun w args=>(Rows.policyMeetsSpec.pre enc Tryz.prog Tryz.f5 [] false w args∧laidMetH Tryz.prog Rows.policyMeetsRow.laid w)∧sizedMet enc Tryz.prog Tryz.f5 (OpenSpec.ofChange Rows.policyMeetsSpec) false w args)
     (Rows.policyMeetsSpec.post enc Tryz.prog Tryz.f5 false true false false):=by
 refine returnsInHanded_of_change_and (C:=Tryz.checked) (X:=fun w _=>laidMetH Tryz.prog Rows.policyMeetsRow.laid w) (fun _ _ _ hh h=>h.of_heap hh) Tryz.own started (by kernel_rfl) Tryz.func5
  (ChangeSpec.witness_shaped (enc:=enc) (C:=Tryz.checked) (os:=os) (X:=fun w _=>laidMetH Tryz.prog Rows.policyMeetsRow.laid w) false (World.doorLaid Tryz.prog 400 os) #[.slice none 0 0,.slice none 0 0,.slice none 0 0] 8 rfl (World.shaped_of_RefB (by kernel_rfl) (by kernel_rfl)) (by kernel_rfl) (by kernel_rfl) (by kernel_rfl)
    (laidMetH_of_parts3 (fuel:=8) (laidMet_of_run' 8 (by kernel_rfl) (by kernel_rfl)) (by kernel_rfl) (by kernel_rfl))) ?_
 intro W base args ds gs before hval0 hW _ hsz hL _;have hval:∀(j:Nat) t v,Tryz.f5.params[j]? =some t→args[j]? =some v→Value.okWide Tryz.prog W .any base t v:=hval0;have hpost:∀W',Below W.heap.size W W'→Rows.policyMeetsSpec.post enc Tryz.prog Tryz.f5 false true false false W args (.bool true) W':=fun W' hb=>
  frame_post (by rw[Tryz.params5];decide+kernel) rfl rfl (fun ds h=>by rw[Tryz.params5] at h;match ds,h with | [d0,d1,d2],_=>exact⟨rfl,rfl,rfl⟩) hW hb
 obtain⟨p,q,hA0,hV,rfl,hfz,hnd⟩:=hW;have hA:DataW.TrodAll enc Tryz.prog W 0 (fun _=>true) true Tryz.f5.params.toList args.toList ds p:=hA0;rw[Tryz.params5] at hA hval;obtain⟨v0,v1,v2,d0,d1,d2,p0,p1,p2,rfl,rfl,rfl,h0,h1,h2⟩:=trodAll_three hA;obtain⟨a1,n1,c1,rfl⟩:=okWide_slice Tryz.underlying22 (hval 0 _ v0 rfl rfl);obtain⟨a2,n2,c2,rfl⟩:=okWide_slice Tryz.underlying22 (hval 1 _ v1 rfl rfl)
 obtain⟨a3,n3,c3,rfl⟩:=okWide_slice Tryz.underlying49 (hval 2 _ v2 rfl rfl);obtain⟨ra,hRA⟩:=open_pcs h0;obtain⟨rb,hRB⟩:=open_pcs h1;obtain⟨nms,hRN⟩:=open_names h2;obtain⟨ea,hE⟩:=errs_of_laid (by rfl) hL;exact(law_pmeets _ _ _ ra rb nms ea W hE hRA hRB hRN).mono fun e W' ⟨he,hb⟩=>⟨_,he,hpost W' hb⟩
theorem policyMeets_said:Rows.PolicyMeetsSaid:=
 OpenClaim.holds_of_wide 5 Tryz.f5 rfl rfl rfl rfl rfl rfl rfl ⟨rfl,rfl,rfl,rfl,rfl⟩ rfl rfl rfl rfl rfl (by kernel_rfl) Tryz.func5 (by kernel_rfl)
  (of_decide_eq_true (by kernel_rfl)) (by unfold Func.isWrapper;first | (rw[if_pos (by decide+kernel)];kernel_rfl) | (rw[if_neg (by decide+kernel)];exact⟨rfl,rfl⟩))
  (fun os started H enc _=>policyMeets_lifted os started H enc)
theorem policyMeets_holds:Rows.PolicyMeetsCardSaid:=
 Claim7.holds_tied_plain_at .later [] _ true (true,_) true
  policyMeets_said (fun _ h=>by cases h) (by kernel_rfl) (fun _ h=>by cases h) policyMeets_row_tie rfl ⟨rfl,rfl⟩ (by kernel_rfl) rfl
  (fun f fn hf hfn=>by
    obtain rfl : f = 5 := Option.some.inj ((show Tryz.prog.funcNamed "liaison/liaisonlaw29.PolicyMeets" = some 5 by kernel_rfl).symm.trans hf) |>.symm
    obtain rfl:fn=Tryz.f5:=(Option.some.inj (Tryz.func5.symm.trans hfn)).symm;exact⟨by kernel_rfl,fun j t ht=>by
      rw[Tryz.params5] at ht;have hm:t∈[22,49]:=by simpa using Array.mem_of_getElem? ht
      have hall:([22,49].all fun u=> !Tryz.prog.wantsStandIn u)=true:=by kernel_rfl
      exact(show Tryz.prog.wantsStandIn t=false by simpa using List.all_eq_true.1 hall t hm)⟩)
  (by kernel_rfl)
#print axioms policyMeets_holds
end Go.Proofs.YtbepkpjcjpmpmaaGreatDoor
