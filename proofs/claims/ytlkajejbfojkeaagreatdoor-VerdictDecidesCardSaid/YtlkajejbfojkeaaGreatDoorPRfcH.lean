/- RfcH -/
import Derived.Test.YtlkajejbfojkeaaGreatDoorPRfcE
import Derived.Test.YtlkajejbfojkeaaGreatDoorPRfcF
import Derived.Test.YtlkajejbfojkeaaGreatDoorPRfcG
set_option linter.unusedSimpArgs false
set_option linter.unusedVariables false
set_option maxRecDepth 100000
set_option maxHeartbeats 16000000
namespace Go.Proofs.YtlkajejbfojkeaaGreatDoor
open Go.RowKit
theorem rright14_of (f:SFact) (hx:F64 f.ex) (w:World):Calls Tryz.prog 90 #[factV f] w (Makes (.bool (fok f)) w):=by
 rw[←rfok_eq f];obtain⟨k,an,aq,rg,nd,pt,pr,oc,dp,pa,st,hw,de,ex⟩:=f;have h6:decide (1≤pr∧pr≤2)=((pr==1) || (pr==2)):=by
  rw[Bool.eq_iff_iff];simp only[decide_eq_true_eq,Bool.or_eq_true,beq_iff_eq];omega
 have hd:decide (1≤de∧de≤2)=((de==1) || (de==2)):=by
  rw[Bool.eq_iff_iff];simp only[decide_eq_true_eq,Bool.or_eq_true,beq_iff_eq];omega
 by_cases h1k:k=1
 · subst h1k;exact rr14_1 an aq rg nd pt pr oc dp pa st hw de ex hx (idOk an aq) _ _ _ _ (stOk st hw) _ _ _ _ _ rfl rfl rfl rfl h6 rfl rfl rfl hd w (fun W=>rright05_of an aq W) (fun W=>rstate_of st hw W)
 by_cases h2k:k=2
 · subst h2k;exact rr14_2 an aq rg nd pt pr oc dp pa st hw de ex hx (idOk an aq) _ _ _ _ (stOk st hw) _ _ _ _ _ rfl rfl rfl rfl h6 rfl rfl rfl hd w (fun W=>rright05_of an aq W) (fun W=>rstate_of st hw W)
 by_cases h3k:k=3
 · subst h3k;exact rr14_3 an aq rg nd pt pr oc dp pa st hw de ex hx (idOk an aq) _ _ _ _ (stOk st hw) _ _ _ _ _ rfl rfl rfl rfl h6 rfl rfl rfl hd w (fun W=>rright05_of an aq W) (fun W=>rstate_of st hw W)
 by_cases h4k:k=4
 · subst h4k;exact rr14_4 an aq rg nd pt pr oc dp pa st hw de ex hx (idOk an aq) _ _ _ _ (stOk st hw) _ _ _ _ _ rfl rfl rfl rfl h6 rfl rfl rfl hd w (fun W=>rright05_of an aq W) (fun W=>rstate_of st hw W)
 by_cases h5k:k=5
 · subst h5k;exact rr14_5 an aq rg nd pt pr oc dp pa st hw de ex hx (idOk an aq) _ _ _ _ (stOk st hw) _ _ _ _ _ rfl rfl rfl rfl h6 rfl rfl rfl hd w (fun W=>rright05_of an aq W) (fun W=>rstate_of st hw W)
 by_cases h6k:k=6
 · subst h6k;exact rr14_6 an aq rg nd pt pr oc dp pa st hw de ex hx (idOk an aq) _ _ _ _ (stOk st hw) _ _ _ _ _ rfl rfl rfl rfl h6 rfl rfl rfl hd w (fun W=>rright05_of an aq W) (fun W=>rstate_of st hw W)
 by_cases h7k:k=7
 · subst h7k;exact rr14_7 an aq rg nd pt pr oc dp pa st hw de ex hx (idOk an aq) _ _ _ _ (stOk st hw) _ _ _ _ _ rfl rfl rfl rfl h6 rfl rfl rfl hd w (fun W=>rright05_of an aq W) (fun W=>rstate_of st hw W)
 by_cases h8k:k=8
 · subst h8k;exact rr14_8 an aq rg nd pt pr oc dp pa st hw de ex hx (idOk an aq) _ _ _ _ (stOk st hw) _ _ _ _ _ rfl rfl rfl rfl h6 rfl rfl rfl hd w (fun W=>rright05_of an aq W) (fun W=>rstate_of st hw W)
 have e1:fnamed k=[]:=by simp only[fnamed,h1k,h2k,h3k,h4k,h5k,h6k,h7k,h8k,if_false]
 have e2:fpk ⟨k,an,aq,rg,nd,pt,pr,oc,dp,pa,st,hw,de,ex⟩=false:=by simp only[fpk,h1k,h2k,h3k,h4k,h5k,h6k,h7k,h8k,if_false]
 have e3:(k==1)=false:=by simpa using h1k
 dsimp only;rw[e1,e2,e3];exact rr14_0 k (by omega) an aq rg nd pt pr oc dp pa st hw de ex hx (idOk an aq) _ _ _ _ (stOk st hw) _ _ _ _ _ rfl rfl rfl rfl h6 rfl rfl rfl hd w (fun W=>rright05_of an aq W) (fun W=>rstate_of st hw W)
end Go.Proofs.YtlkajejbfojkeaaGreatDoor
