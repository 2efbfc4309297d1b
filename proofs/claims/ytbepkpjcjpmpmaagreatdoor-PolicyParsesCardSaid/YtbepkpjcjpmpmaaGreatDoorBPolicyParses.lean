/- PolicyParses -/
import Derived.Test.YtbepkpjcjpmpmaaGreatDoorBLwPWToLwPP
import Derived.Deep.Slices
import Derived.ChangeArms
import Derived.Laws.Cover2
import Derived.Deep.Fields
import Derived.Test.YtbepkpjcjpmpmaaGreatDoorASentToErrs
import Derived.Lib.SmallJoins
import Derived.Test.YtbepkpjcjpmpmaaGreatDoorTie
import Derived.Test.YtbepkpjcjpmpmaaGreatDoorCards
set_option linter.unusedSimpArgs false
set_option linter.unusedVariables false
set_option maxRecDepth 100000
set_option maxHeartbeats 16000000
namespace Go.Proofs.YtbepkpjcjpmpmaaGreatDoor
open Go.ChangeShapes Go.WideShapes Go.ChangeAt Go.WideMaps Go.WideElems Go.RowKit Go.Joins
theorem policyParses_lifted (os : Os) (started : os.Started) (H : Type) (enc : TypeId × Value → H) :
    ReturnsInHanded {} Tryz.checked os 4 .any (fun w args=>(Rows.policyParsesSpec.pre enc Tryz.prog Tryz.f4 [] false w args∧laidMetH Tryz.prog Rows.policyParsesRow.laid w)∧sizedMet enc Tryz.prog Tryz.f4 (OpenSpec.ofChange Rows.policyParsesSpec) false w args)
     (Rows.policyParsesSpec.post enc Tryz.prog Tryz.f4 false true false false):=by
 refine returnsInHanded_of_change_and (C:=Tryz.checked) (X:=fun w _=>laidMetH Tryz.prog Rows.policyParsesRow.laid w) (fun _ _ _ hh h=>h.of_heap hh) Tryz.own started (by kernel_rfl) Tryz.func4
  (ChangeSpec.witness_shaped (enc:=enc) (C:=Tryz.checked) (os:=os) (X:=fun w _=>laidMetH Tryz.prog Rows.policyParsesRow.laid w) false (World.doorLaid Tryz.prog 400 os) #[.string ⟨#[]⟩] 8 rfl (World.shaped_of_RefB (by kernel_rfl) (by kernel_rfl)) (by kernel_rfl) (by kernel_rfl) (by kernel_rfl)
    (laidMetH_of_parts3 (fuel:=8) (laidMet_of_run' 8 (by kernel_rfl) (by kernel_rfl)) (by kernel_rfl) (by kernel_rfl))) ?_
 intro W base args ds gs before hval0 hW _ hsz hL _;have hval:∀(j:Nat) t v,Tryz.f4.params[j]? =some t→args[j]? =some v→Value.okWide Tryz.prog W .any base t v:=hval0;have hpost:∀W',Below W.heap.size W W'→Rows.policyParsesSpec.post enc Tryz.prog Tryz.f4 false true false false W args (.bool true) W':=fun W' hb=>
  frame_post (by rw[Tryz.params4];decide+kernel) rfl rfl (fun ds h=>by rw[Tryz.params4] at h;match ds,h with | [d0],_=>exact⟨rfl,rfl,rfl⟩) hW hb
 obtain⟨p,q,hA0,hV,rfl,hfz,hnd⟩:=hW;have hA:DataW.TrodAll enc Tryz.prog W 0 (fun _=>true) true Tryz.f4.params.toList args.toList ds p:=hA0;rw[Tryz.params4] at hA hval;obtain⟨v0,d0,rfl,rfl,h0⟩:=trodAll_one hA;obtain⟨s1,rfl,_,_,_⟩:=Go.ChangeMaps.open_string Tryz.underlying9 (hval 0 _ v0 rfl rfl) h0;obtain⟨ea,hE⟩:=errs_of_laid (by rfl) hL
 exact((by have:=law_pparses s1.data.toList ea W hE;simpa using this:Calls Tryz.prog 4 #[.string s1] W (Makes (.bool true) W))).mono fun e W' ⟨he,hb⟩=>⟨_,he,hpost W' hb⟩
theorem policyParses_said:Rows.PolicyParsesSaid:=
 OpenClaim.holds_of_wide 4 Tryz.f4 rfl rfl rfl rfl rfl rfl rfl ⟨rfl,rfl,rfl,rfl,rfl⟩ rfl rfl rfl rfl rfl (by kernel_rfl) Tryz.func4 (by kernel_rfl)
  (of_decide_eq_true (by kernel_rfl)) (by unfold Func.isWrapper;first | (rw[if_pos (by decide+kernel)];kernel_rfl) | (rw[if_neg (by decide+kernel)];exact⟨rfl,rfl⟩))
  (fun os started H enc _=>policyParses_lifted os started H enc)
theorem policyParses_holds:Rows.PolicyParsesCardSaid:=
 Claim7.holds_tied_plain_at .later [] _ true (true,_) true
  policyParses_said (fun _ h=>by cases h) (by kernel_rfl) (fun _ h=>by cases h) policyParses_row_tie rfl ⟨rfl,rfl⟩ (by kernel_rfl) rfl
  (fun f fn hf hfn=>by
    obtain rfl : f = 4 := Option.some.inj ((show Tryz.prog.funcNamed "liaison/liaisonlaw29.PolicyParses" = some 4 by kernel_rfl).symm.trans hf) |>.symm
    obtain rfl:fn=Tryz.f4:=(Option.some.inj (Tryz.func4.symm.trans hfn)).symm;exact⟨by kernel_rfl,fun j t ht=>by
      rw[Tryz.params4] at ht;have hm:t∈[9]:=by simpa using Array.mem_of_getElem? ht
      have hall:([9].all fun u=> !Tryz.prog.wantsStandIn u)=true:=by kernel_rfl
      exact(show Tryz.prog.wantsStandIn t=false by simpa using List.all_eq_true.1 hall t hm)⟩)
  (by kernel_rfl)
#print axioms policyParses_holds
end Go.Proofs.YtbepkpjcjpmpmaaGreatDoor
