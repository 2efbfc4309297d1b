/- RstI -/
import Derived.Test.YtlkajejbfojkeaaGreatDoorGRstD
set_option linter.unusedSimpArgs false
set_option linter.unusedVariables false
set_option maxRecDepth 100000
set_option maxHeartbeats 16000000
namespace Go.Proofs.YtlkajejbfojkeaaGreatDoor
open Go.RowKit
attribute [local go_sem] store_float
theorem ract4_yes (R : RLoc) (S : Sto) (f : SFact) (i : Nat) (a : SAct) (v : Value) (w : World) (h : RStoreAt R S w) (hl : S.acts.length ≤ 8) (hk : f.k = 4) (hv : R.rv[i]? = some v) (ha : S.acts[i]? = some a) (h1 : a.oc = 1) (h2 : a.de = 0) :
    Calls Tryz.prog 93 #[.pointer (some ⟨R.sb,0,none⟩),.int .i64 (i:Int),factV f] w (fun e w'=>e=.returned (.bool true)∧RGoes R {S with acts:=S.acts.set i {a with de:=f.de}} w w'):=by
 obtain⟨aa,acap,hav,han,har⟩:=act_row h.len h.acts;have hil:i<S.acts.length:=(List.getElem?_eq_some_iff.1 ha).1;obtain⟨g,rfl,hg,hgf,hcell⟩:=har (by omega);obtain⟨a0,a1,a2,a3,a4,a5,a6,a7⟩:=hcell i a v ha hv;have c2:w.cell? ⟨R.sb,2,none⟩=some (.slice (some ⟨g,0,none⟩) S.acts.length acap):=by rw[←hav];exact h.blk.cell 2
 have hsb:=h.blk.lt;have HG:=qq (fun w2 (hb:Below w.heap.size w w2)=>rdec_goes h hb hav ha f.de);obtain⟨n,hn⟩:∃n,n=S.acts.length:=⟨_,rfl⟩
 rw[←hn] at c2 hil hl;have hi0:(0:Int)≤(i:Int):=by omega
 have hi1:(i:Int)<(n:Int):=by omega
 obtain⟨xan,xaq,xoc,xdp,xex,xpa,xde,xrs⟩:=a;obtain⟨k,an,aq,rg,nd,pt,pr,oc,dp,pa,st,hw,de,ex⟩:=f;dsimp only at*;subst hk;dsimp only[factV,factC] at*;subst h1 h2;clear h hv ha hav han har hcell hn a0 a1 a3 a4 a5 a7;go_enter Tryz.func93,Tryz.ntmps93;go_wp2_with fail;go_ret;exact⟨rfl,(HG.out _ (by go_grown)).then_below (by go_grown)⟩
theorem ract4_no1 (R : RLoc) (S : Sto) (f : SFact) (i : Nat) (a : SAct) (v : Value) (w : World) (h : RStoreAt R S w) (hl : S.acts.length ≤ 8) (hk : f.k = 4) (hv : R.rv[i]? = some v) (ha : S.acts[i]? = some a) (h1 : a.oc ≠ 1) :
    Calls Tryz.prog 93 #[.pointer (some ⟨R.sb,0,none⟩),.int .i64 (i:Int),factV f] w (fun e w'=>e=.returned (.bool false)∧RGoes R S w w'):=by
 obtain⟨aa,acap,hav,han,har⟩:=act_row h.len h.acts;have hil:i<S.acts.length:=(List.getElem?_eq_some_iff.1 ha).1;obtain⟨g,rfl,hg,hgf,hcell⟩:=har (by omega);obtain⟨a0,a1,a2,a3,a4,a5,a6,a7⟩:=hcell i a v ha hv;have c2:w.cell? ⟨R.sb,2,none⟩=some (.slice (some ⟨g,0,none⟩) S.acts.length acap):=by rw[←hav];exact h.blk.cell 2
 have hsb:=h.blk.lt;have HG:=qq (fun w2 (hb:Below w.heap.size w w2)=>RGoes.same h hb);obtain⟨n,hn⟩:∃n,n=S.acts.length:=⟨_,rfl⟩
 rw[←hn] at c2 hil hl;have hi0:(0:Int)≤(i:Int):=by omega
 have hi1:(i:Int)<(n:Int):=by omega
 obtain⟨xan,xaq,xoc,xdp,xex,xpa,xde,xrs⟩:=a;obtain⟨k,an,aq,rg,nd,pt,pr,oc,dp,pa,st,hw,de,ex⟩:=f;dsimp only at*;subst hk;dsimp only[factV,factC] at*;have d1:(xoc !=1)=true:=by simpa using h1
 clear h1;clear h hv ha hav han har hcell hn a0 a1 a3 a4 a5 a7;go_enter Tryz.func93,Tryz.ntmps93;go_wp2_with fail;go_ret;exact⟨rfl,HG.out _ (by go_grown)⟩
theorem ract4_no2 (R : RLoc) (S : Sto) (f : SFact) (i : Nat) (a : SAct) (v : Value) (w : World) (h : RStoreAt R S w) (hl : S.acts.length ≤ 8) (hk : f.k = 4) (hv : R.rv[i]? = some v) (ha : S.acts[i]? = some a) (h1 : a.oc = 1) (h2 : a.de ≠ 0) :
    Calls Tryz.prog 93 #[.pointer (some ⟨R.sb,0,none⟩),.int .i64 (i:Int),factV f] w (fun e w'=>e=.returned (.bool false)∧RGoes R S w w'):=by
 obtain⟨aa,acap,hav,han,har⟩:=act_row h.len h.acts;have hil:i<S.acts.length:=(List.getElem?_eq_some_iff.1 ha).1;obtain⟨g,rfl,hg,hgf,hcell⟩:=har (by omega);obtain⟨a0,a1,a2,a3,a4,a5,a6,a7⟩:=hcell i a v ha hv;have c2:w.cell? ⟨R.sb,2,none⟩=some (.slice (some ⟨g,0,none⟩) S.acts.length acap):=by rw[←hav];exact h.blk.cell 2
 have hsb:=h.blk.lt;have HG:=qq (fun w2 (hb:Below w.heap.size w w2)=>RGoes.same h hb);obtain⟨n,hn⟩:∃n,n=S.acts.length:=⟨_,rfl⟩
 rw[←hn] at c2 hil hl;have hi0:(0:Int)≤(i:Int):=by omega
 have hi1:(i:Int)<(n:Int):=by omega
 obtain⟨xan,xaq,xoc,xdp,xex,xpa,xde,xrs⟩:=a;obtain⟨k,an,aq,rg,nd,pt,pr,oc,dp,pa,st,hw,de,ex⟩:=f;dsimp only at*;subst hk;dsimp only[factV,factC] at*;subst h1;have d2:(xde !=0)=true:=by simpa using h2
 clear h2;clear h hv ha hav han har hcell hn a0 a1 a3 a4 a5 a7;go_enter Tryz.func93,Tryz.ntmps93;go_wp2_with fail;go_ret;exact⟨rfl,HG.out _ (by go_grown)⟩
end Go.Proofs.YtlkajejbfojkeaaGreatDoor
