/- MtA, MtB -/
import Derived.Test.YtbepkpjcjpmpmaaGreatDoorAQq
import Derived.Test.YtbepkpjcjpmpmaaGreatDoorRows
import Derived.WalkKit
import Derived.WalkSpells
import Derived.WalkLawsBesides
import Derived.BigQuiet
import Derived.Deep.QuietTactic
import Derived.StillTailTactics
import Derived.Handy
import Derived.Lib.Hide
import Derived.Test.YtbepkpjcjpmpmaaGreatDoorADnFToPolT
import Derived.Shelf.SlicesE.Equal
import Derived.Ground.SlgnProg
import Derived.Lib.SliceRun
set_option linter.unusedSimpArgs false
set_option linter.unusedVariables false
set_option maxRecDepth 100000
set_option maxHeartbeats 16000000
namespace Go.Proofs.YtbepkpjcjpmpmaaGreatDoor
open Go.RowKit Go.Shelf
shelf_lay_g SlLaysE.n33 Slgn 33 at Tryz 70 as shEqualS
def rix (o:Option Nat):Int:=match o with | some i=>(i:Int) | none=> -1
theorem equalS_of (Ba Bb : Nat) (va vb : Value) (sa sb : PAlt) (w : World) (ha : AltV Ba w va sa) (hb : AltV Bb w vb sb) (hla : sa.length ≤ 1000) (hlb : sb.length ≤ 1000) :
    Calls Tryz.prog 70 #[va,vb] w (fun e w'=>e=.returned (.bool (decide (sa=sb)))∧∃q,w'=w.drewN q):=by
 by_cases hn:sa.length=sb.length
 · rcases Nat.eq_zero_or_pos sa.length with h0 | h0
   · have e1:=List.length_eq_zero_iff.1 h0;have e2:=List.length_eq_zero_iff.1 (hn.symm.trans h0);subst e1 e2;obtain⟨aa,ca,rfl⟩:=row_slice ha;obtain⟨ab,cb,rfl⟩:=row_slice hb;clear ha hb;rw[show decide (([]:PAlt)=[])=true from rfl];simp only[List.length_nil];go_enter Tryz.func70,Tryz.ntmps70;go_wp2_with fail;go_loopw [13] (fun cc wr=>cc=.int .i64 0∧wr=w) (fun _ _=>0)
     case atStart=>exact⟨by first | rfl | trivial,by first | rfl | trivial⟩
     case round=>
      obtain⟨rfl,rfl⟩:=hrel;go_wp2_with fail;go_ret;exact⟨rfl,0,rfl⟩
   · have hva:va≠.slice none 0 0:=by
      rintro rfl;have:=alt_nil ha;subst this;simp at h0
     have hvb:vb≠.slice none 0 0:=by
      rintro rfl;have:=alt_nil hb;subst this;rw[hn] at h0;simp at h0
     obtain⟨g,cap,rfl,hg,hgl,hnc,hcm,hlen,hH⟩:=Lib.holds_of_ownsRow (enc:=encStr) ha hva;obtain⟨g2,cap2,rfl,hg2,hgl2,hnc2,hcm2,hlen2,hH2⟩:=Lib.holds_of_ownsRow (enc:=encStr) hb hvb;have c1:∀j,j<sa.length→w.cell? ⟨g,0+j,none⟩=some (encStr sa[j]!):=fun j hj=>by
      have:=(hH j (by simpa using hj)).1;rw[this,getElem!_pos sa.toArray j (by simpa using hj),getElem!_pos sa j hj];simp
     have c2:∀j,j<sb.length→w.cell? ⟨g2,0+j,none⟩=some (encStr sb[j]!):=fun j hj=>by
      have:=(hH2 j (by simpa using hj)).1;rw[this,getElem!_pos sb.toArray j (by simpa using hj),getElem!_pos sb j hj];simp
     have:=AnyE.slices_Equal shEqualS encStr (fun x y=>decide (x=y)) (neStrD _) g 0 sa.length cap g2 0 sb.length cap2 sa sb w (Nat.le_refl _) (Nat.le_refl _) (by omega) (by omega) c1 c2;rw[List.take_length,List.take_length,allEq_dec] at this;exact this
 · have hne:decide (sa=sb)=false:=by
    rw[decide_eq_false_iff_not];rintro rfl;exact hn rfl
   rw[hne];obtain⟨aa,ca,rfl⟩:=row_slice ha;obtain⟨ab,cb,rfl⟩:=row_slice hb;clear ha hb hne;generalize sa.length=na at*;generalize sb.length=nb at*;have hn2:((na:Int)==(nb:Int))=false:=by rw[beq_eq_false_iff_ne];omega
   have hn3:((na:Int) !=(nb:Int))=true:=by rw[bne,hn2];rfl
   go_enter Tryz.func70,Tryz.ntmps70;go_wp2_with fail;go_ret;exact⟨rfl,0,rfl⟩
theorem has1_of (B1 B2 p : Nat) (a a2 : Option Addr) (c c2 : Nat) (x l : PAlt) (w : World) (hx : AltV B1 w (.slice a x.length c) x) (hl : AltV B2 w (.slice a2 l.length c2) l) (hp : Blk w p #[.slice a2 l.length c2]) (h1 : x.length ≤ 1000) (h2 : l.length ≤ 1000) :
    Calls Tryz.prog 69 #[.slice a x.length c,.pointer (some ⟨p,0,none⟩)] w (Makes (.bool (decide (x=l))) w):=by
 have HE:=qq (equalS_of B1 B2 _ _ x l w hx hl h1 h2);have c0:w.cell? ⟨p,0,none⟩=some (.slice a2 l.length c2):=hp.cell 0;have hpl:=hp.lt;generalize decide (x=l)=r at*;generalize x.length=nx at*;generalize l.length=nl at*;clear hx hl hp;go_enter Tryz.func69,Tryz.ntmps69;go_wp2_with fail;refine HE.out.mono ?_;rintro e w1 ⟨rfl,q,rfl⟩;go_wp2_with fail;go_ret
 exact⟨rfl,⟨rfl,rfl,rfl,Nat.le_refl _,fun _ _=>rfl⟩⟩
theorem indexS_has (cap : Value) (q : PAlt → Bool) (B : Nat) (av : Value) (l : List PAlt) (w : World) (hrow : AltsV 49 B w av l) (hl : l.length ≤ 100000)
    (hp:∀(W:World) (x:PAlt) (a:Option Addr) (c:Nat),Below w.heap.size w W→x∈l→AltV B W (.slice a x.length c) x→Calls Tryz.prog 69 #[.slice a x.length c,cap] W (Makes (.bool (q x)) W)):
    Calls Tryz.prog 67 #[av,.func (.func 69) #[] #[cap]] w (Makes (.int .i64 (rix (l.findIdx? q))) w):=by
 have HR:=qq (fun W (hW:Below w.heap.size w W)=>hrow.below hW);have HP:=qq hp;obtain⟨a,c,rfl⟩:=hrow.row;obtain⟨n,hn⟩:∃n,n=l.length:=⟨_,rfl⟩
 rw[←hn] at hl⊢;have HN:=qq hn;clear hp hrow hn;go_enter Tryz.func67,Tryz.ntmps67;go_wp2_with fail;go_loopw [8] (fun i wr=>∃k:Nat,k≤n∧i=.int .i64 (k:Nat)∧Hid (∀(j:Nat) (h:j<l.length),j<k→q l[j]=false)∧Hid (Below w.heap.size w wr)) (fun i _=>n - (intOf i).toNat)
 case atStart=>exact⟨0,by omega,by go_num,qq (fun j _ h=>absurd h (by omega)),qq (Below.refl _ _)⟩
 case round=>
  obtain⟨k,hk,rfl,HBE,HB⟩:=hrel;have hk0:(0:Int)≤(k:Int):=by omega
  by_cases hlt:k<n
  · have hks:k<l.length:=by rw[←HN.out];exact hlt
    have hki:(k:Int)<(n:Int):=by omega
    obtain⟨x,hx⟩:∃x,l[k]? =some x:=⟨_,List.getElem?_eq_getElem hks⟩
    have hxe:l[k]=x:=(List.getElem?_eq_some_iff.1 hx).2;obtain⟨g,ax,cx,cap',e1,hxv,hcell,hgl⟩:=alts_at (HR.out _ HB.out) k x hx;injection e1 with e1a e1n e1b
    clear e1n;subst e1a e1b;have c0:=hcell wr (Below.refl _ _);have HC:=qq (fun W (hW:Below wr.heap.size wr W)=>HP.out W x ax cx (below_then HB.out hW) (List.mem_of_getElem? hx) (row_be hxv hW));obtain⟨t,ht⟩:∃t,t=q x:=⟨_,rfl⟩
    rw[←ht] at HC;have HT:Hid (t=q l[k]):=qq (by rw[hxe];exact ht);obtain⟨nx,hnx⟩:∃q,q=x.length:=⟨_,rfl⟩
    rw[←hnx] at HC c0;clear ht hcell hx hxv hxe hnx;go_wp2_with fail;refine(HC.out _ (by go_grown)).mono ?_;rintro e w1 ⟨rfl,hb1⟩;have HB1:=qq (below_then HB.out hb1);clear hb1 c0
    cases t with
    | true=>
     have HF:Hid (rix (l.findIdx? q)=(k:Int)):=qq (by
       have:l.findIdx? q=some k:=List.findIdx?_eq_some_iff_getElem.2 ⟨hks,HT.out.symm,fun j hj=>by have:=HBE.out j (by omega) hj;simp[this]⟩;rw[this];rfl)
     go_wp2_with fail;go_ret;exact⟨by rw[HF.out];rfl,HB1.out⟩
    | false=>
     have HBE2:Hid (∀(j:Nat) (h:j<l.length),j<k+1→q l[j]=false):=qq (fun j h hj=>by
       rcases Nat.lt_or_eq_of_le (Nat.le_of_lt_succ hj) with h1 | h1
       · exact HBE.out j h h1
       · subst h1;exact HT.out.symm)
     go_wp2_with fail;go_roundw
     case rel=>exact⟨k+1,by omega,by go_num,HBE2,HB1⟩
     case measure=>simp[intOf];omega
  · obtain rfl:k=n:=by omega
    have HF:Hid (rix (l.findIdx? q)= -1):=qq (by
      have:l.findIdx? q=none:=by
        rw[List.findIdx?_eq_none_iff];intro x hx;obtain⟨j,hj,rfl⟩:=List.getElem_of_mem hx;have:=HBE.out j hj (by rw[HN.out];exact hj);simp[this]
      rw[this];rfl)
    go_wp2_with fail;go_ret;exact⟨by rw[HF.out];rfl,HB.out⟩
theorem find_any (q:PAlt→Bool) (l:List PAlt):decide (0≤rix (l.findIdx? q))=l.any q:=by
 cases h:l.findIdx? q with
 | none=>
  rw[List.findIdx?_eq_none_iff] at h;have:l.any q=false:=by rw[List.any_eq_false];intro x hx;rw[h x hx];simp
  rw[this];rfl
 | some i=>
  obtain⟨h1,h2,_⟩:=List.findIdx?_eq_some_iff_getElem.1 h;have:l.any q=true:=by rw[List.any_eq_true];exact⟨l[i],List.getElem_mem h1,h2⟩
  rw[this];simp[rix]
theorem contains_has (p B B2 : Nat) (a2 : Option Addr) (c2 : Nat) (av : Value) (l : List PAlt) (y : PAlt) (w : World) (hrow : AltsV 49 B w av l) (hl : l.length ≤ 100000) (hm : ∀ x ∈ l, x.length ≤ 1000) (hy : AltV B2 w (.slice a2 y.length c2) y) (hyl : y.length ≤ 1000) (hp : Blk w p #[.slice a2 y.length c2]) :
    Calls Tryz.prog 68 #[av,.func (.func 69) #[] #[.pointer (some ⟨p,0,none⟩)]] w (Makes (.bool (l.any fun x=>decide (x=y))) w):=by
 have HI:=qq (indexS_has (.pointer (some ⟨p,0,none⟩)) (fun x=>decide (x=y)) B av l w hrow hl (fun W x a c hW hx hv=>has1_of B B2 p a a2 c c2 x y W hv (row_be hy hW) (hp.below hW) (hm x hx) hyl));have HA:=qq (find_any (fun x=>decide (x=y)) l);obtain⟨a,c,rfl⟩:=hrow.row;obtain⟨n,hn⟩:∃n,n=l.length:=⟨_,rfl⟩
 rw[←hn] at HI⊢;generalize rix (l.findIdx? fun x=>decide (x=y))=r at HI HA;rw[←HA.out];clear hrow hm hy hp hn HA;go_enter Tryz.func68,Tryz.ntmps68;go_wp2_with fail;refine HI.out.mono ?_;rintro e w1 ⟨rfl,hb1⟩;go_wp2_with fail
 all_goals go_ret
 all_goals exact⟨ret_bool (by simp_all),hb1⟩
theorem has29_of (B B2 : Nat) (a2 : Option Addr) (c2 : Nat) (av : Value) (l : List PAlt) (y : PAlt) (w : World) (hrow : AltsV 49 B w av l) (hl : l.length ≤ 100000) (hm : ∀ x ∈ l, x.length ≤ 1000) (hy : AltV B2 w (.slice a2 y.length c2) y) (hyl : y.length ≤ 1000) :
    Calls Tryz.prog 45 #[av,.slice a2 y.length c2] w (Makes (.bool (l.any fun x=>decide (x=y))) w):=by
 have hmf:∀(fn:Fn) (first cap:Array Value) (w:World),(Instr.makeFunc fn first cap).run Tryz.prog w=.ok (.func fn first cap) w:=fun _ _ _ _=>rfl
 have hba:Below w.heap.size w (w.alloc (.cells #[.slice a2 y.length c2] 49)):=(Below.refl _ _).alloc (Nat.le_refl _) _;have HC:=qq (contains_has w.heap.size B B2 a2 c2 av l y (w.alloc (.cells #[.slice a2 y.length c2] 49)) (hrow.below hba) hl hm (row_be hy hba) hyl (Blk.fresh w _ _ _ rfl));obtain⟨a,c,rfl⟩:=hrow.row;generalize(l.any fun x=>decide (x=y))=r at*;generalize l.length=n at*
 generalize y.length=ny at*;clear hrow hm hy;go_enter Tryz.func45,Tryz.ntmps45;go_wp2_with fail;refine HC.out.mono ?_;rintro e w1 ⟨rfl,hb1⟩;go_wp2_with fail;go_ret;exact⟨rfl,below_then hba hb1⟩
theorem rhas_of (B B2 : Nat) (a2 : Option Addr) (c2 : Nat) (av : Value) (l : List PAlt) (y : PAlt) (w : World) (hrow : AltsV 49 B w av l) (hl : l.length ≤ 100000) (hm : ∀ x ∈ l, x.length ≤ 1000) (hy : AltV B2 w (.slice a2 y.length c2) y) (hyl : y.length ≤ 1000) :
    Calls Tryz.prog 22 #[av,.slice a2 y.length c2] w (Makes (.bool (l.any fun x=>decide (x=y))) w):=by
 have HR:=qq (fun W (hW:Below w.heap.size w W)=>hrow.below hW);have HC:=qq (fun W (x:PAlt) vx Bx (hW:Below w.heap.size w W) (hx:AltV Bx W vx x) (hlx:x.length≤1000)=>rcompare_of Bx B2 vx (.slice a2 y.length c2) x y W hx (row_be hy hW) hlx hyl);have HM:=qq hm;obtain⟨a,c,rfl⟩:=hrow.row;obtain⟨n,hn⟩:∃n,n=l.length:=⟨_,rfl⟩
 have HN:=qq hn;have HRES:Hid (∀(r:Bool) w',(l.any fun x=>decide (x=y))=r→Below w.heap.size w w'→Makes (.bool (l.any fun x=>decide (x=y))) w (.returned (.bool r)) w'):=qq (fun r w' h1 h2=>⟨by rw[h1],h2⟩);generalize Makes (.bool (l.any fun x=>decide (x=y))) w=R at HRES⊢;rw[←hn] at hl HR⊢;generalize y.length=ny at*;clear hrow hm hy hn;go_enter Tryz.func22,Tryz.ntmps22;go_wp2_with fail
 go_loopw [9] (fun cc wr=>∃i:Nat,i≤n∧cc=.int .i64 (i:Int)∧Hid (∀(j:Nat) x,j<i→l[j]? =some x→x≠y)∧Hid (Below w.heap.size w wr)) (fun cc _=>n - (intOf cc).toNat)
 case atStart=>exact⟨0,by omega,by first | rfl | go_num,qq (fun j x h=>by omega),qq (Below.refl _ _)⟩
 case round=>
  obtain⟨i,hi,rfl,HA,HB⟩:=hrel;have hi0:(0:Int)≤(i:Int):=by omega
  by_cases hlt:i<n
  · have hi1:(i:Int)<(n:Int):=by omega
    obtain⟨x,hx⟩:∃x,l[i]? =some x:=⟨_,List.getElem?_eq_getElem (by rw[←HN.out];exact hlt)⟩
    obtain⟨g,ax,cx,cap,e1,hxv,hcell,hgl⟩:=alts_at (HR.out _ HB.out) i x hx;injection e1 with e1a e1n e1b
    clear e1n;subst e1a e1b;have hcx:=hcell wr (Below.refl _ _);have HCX:=qq (HC.out wr x _ B HB.out hxv (HM.out x (List.mem_of_getElem? hx)));have HXI:=qq hx;obtain⟨c0,hc0⟩:∃c0,c0=rCmp x y:=⟨_,rfl⟩
    rw[←hc0] at HCX;have HCC:=qq hc0;obtain⟨nx,hnx⟩:∃q,q=x.length:=⟨_,rfl⟩
    rw[←hnx] at HCX hcx;clear hcell hxv hx hc0 hnx;go_wp2_with fail;refine HCX.out.mono ?_;rintro e w2 ⟨rfl,hb2⟩;have HB2:=qq (below_then HB.out hb2);clear hb2 hcx;by_cases hz:c0=0
    · have HF:=qq (HRES.out true w2 (by
        rw[List.any_eq_true];exact⟨x,List.mem_of_getElem? HXI.out,by simpa using(rCmp_lt x y).2.1 (by rw[←HCC.out];exact hz)⟩) HB2.out)
      subst hz;go_wp2_with fail
      (try go_ret)
      exact HF.out
    · have hzb:(c0==0)=false:=by simpa using hz
      have HA2:Hid (∀(j:Nat) z,j<i+1→l[j]? =some z→z≠y):=qq (fun j z hj h=>by
        rcases Nat.lt_or_ge j i with h1 | h1
        · exact HA.out j z h1 h
        · obtain rfl:j=i:=by omega
          rw[HXI.out] at h;injection h with h
          subst h;exact fun e=>hz (by rw[HCC.out];exact(rCmp_lt x y).2.2 e))
      clear hz;go_wp2_with fail;go_roundw
      case rel=>exact⟨i+1,by omega,by go_num,HA2,HB2⟩
      case measure=>simp[intOf];omega
  · obtain rfl:n=i:=by omega
    have HF:=qq (HRES.out false wr (by
      rw[List.any_eq_false];intro x hx;obtain⟨j,hj,rfl⟩:=List.getElem_of_mem hx;have:=HA.out j _ (by rw[HN.out];exact hj) (List.getElem?_eq_getElem hj);simpa using this) HB.out)
    go_wp2_with fail
    (try go_ret)
    exact HF.out
abbrev VP:=Value×PAlt
theorem alts_pairs {T:TypeId} {B:Nat} {w:World} {v:Value} {l:List PAlt} (h:AltsV T B w v l):∃P:List VP,l=P.map (·.2)∧w.ownsRow B T 1 v P.length (P.map (·.1))∧∀p∈P,AltV B w p.1 p.2:=by
 obtain⟨vs,hr,hs,ha⟩:=h;have hs':vs.size=l.length:=by simpa using hs
 refine⟨vs.toList.zip l,by rw[List.map_snd_zip];simp;omega,?_,?_⟩
 · rw[List.map_fst_zip (by simp;omega),List.length_zip];have e:min vs.toList.length l.length=l.length:=by simp;omega
   rw[e];exact hr
 · intro p hp;obtain⟨i,hi,he⟩:=List.getElem_of_mem hp;rw[List.length_zip] at hi;have hi2:i<l.length:=by omega
   have:=ha i (by simpa using hi2);rw[←he,List.getElem_zip];rw[getElem!_pos vs i (by omega),getElem!_pos l.toArray i (by simpa using hi2)] at this;simpa using this
theorem pairs_alts {T:TypeId} {B:Nat} {w:World} {v:Value} {P:List VP} (h:w.ownsRow B T 1 v P.length (P.map (·.1))) (ha:∀p∈P,AltV B w p.1 p.2):AltsV T B w v (P.map (·.2)):=by
 refine⟨(P.map (·.1)).toArray,by simpa using h,by simp,fun i hi=> ?_⟩;have hi2:i<P.length:=by simpa using hi
 have:=ha P[i] (List.getElem_mem hi2);rw[getElem!_pos _ i (by simpa using hi2),getElem!_pos _ i (by simpa using hi2)];simpa using this
theorem zero_one (n:Nat) (z:Value):(Builtin.zeroCells #[z] n).toList=List.replicate n z:=by
 unfold Builtin.zeroCells;apply List.ext_getElem
 · simp
 · intro i h1 h2;simp[Nat.mod_one]
theorem row_cell1 {w:World} {B n g cap:Nat} {T:TypeId} {xs:List Value} (h:w.ownsRow B T 1 (.slice (some ⟨g,0,none⟩) n cap) n xs) {j:Nat} {v:Value} (hj:xs[j]? =some v):w.cell? ⟨g,j,none⟩=some v∧w.frozen? ⟨g,j,none⟩=false:=by
 have h1:=h.cells (g:=g) rfl j v hj;rw[Addr.add_lit,Nat.zero_add] at h1;refine⟨h1,?_⟩;rcases h.2 with⟨e0,_⟩ | ⟨g2,c2,cur2,e2,_,hg2,_⟩
 · cases e0
 · injection e2 with e2
   injection e2 with e2
   injection e2 with e2
   subst e2;simp[World.frozen?,hg2]
theorem row_cap {w:World} {B n g cap:Nat} {T:TypeId} {xs:List Value} (h:w.ownsRow B T 1 (.slice (some ⟨g,0,none⟩) n cap) n xs):n≤cap∧g<w.heap.size∧B≤g∧xs.length=n:=by
 rcases h.2 with⟨e0,_⟩ | ⟨g2,c2,cur2,e2,hb,hg2,hn,_⟩
 · cases e0
 · injection e2 with e2 _ e3
   injection e2 with e2
   injection e2 with e2
   subst e2 e3;exact⟨hn,(Array.getElem?_eq_some_iff.1 hg2).1,hb,by have:=h.1;omega⟩
theorem row_sets {B n g cap:Nat} {T:TypeId}:∀(vs:List Value) (o:Nat) (w:World) (xs:List Value),w.ownsRow B T 1 (.slice (some ⟨g,0,none⟩) n cap) n xs→o+vs.length≤n→∃xs',(w.setCells g o vs).ownsRow B T 1 (.slice (some ⟨g,0,none⟩) n cap) n xs'∧∀j,j<o→xs'[j]? =xs[j]?
 | [],o,w,xs,h,_=>⟨xs,h,fun _ _=>rfl⟩
 | v::r,o,w,xs,h,hl=>by
  have h1:=row_set h o v (by simp at hl;omega);obtain⟨xs',h2,h3⟩:=row_sets r (o+1) _ _ h1 (by simp at hl;omega);refine⟨xs',h2,fun j hj=> ?_⟩;rw[h3 j (by omega),List.getElem?_set_ne (by omega)]
theorem gr_sets {g:Nat} {w:World}:∀(vs:List Value) (o:Nat) (W:World),w.grownBy W (some g)→w.grownBy (W.setCells g o vs) (some g)
 | [],o,W,h=>h
 | v::r,o,W,h=>gr_sets r (o+1) _ (gr_setb h o v)
theorem row_pre {w:World} {B n g cap i:Nat} {T:TypeId} {xs:List Value} (h:w.ownsRow B T 1 (.slice (some ⟨g,0,none⟩) n cap) n xs) (hi:i≤n):w.ownsRow B T 1 (.slice (some ⟨g,0,none⟩) i cap) i (xs.take i):=by
 rcases h.2 with⟨e0,_⟩ | ⟨g2,c2,cur2,e2,hb,hg2,hn,hm,hs,ht⟩
 · cases e0
 · injection e2 with e2 _ e3
   injection e2 with e2
   injection e2 with e2
   subst e2 e3;refine⟨by rw[List.length_take];have:=h.1;omega,.inr ⟨g,cap,cur2,rfl,hb,hg2,by omega,hm,hs,?_⟩⟩;rw[←ht,List.take_take];congr 1;omega
theorem clear_S (W : World) (ty : TypeId) (g i m c : Nat) (h0 : 0 < m) (hc : ∀ j, j < m → (W.cell? ⟨g, i + j, none⟩).isSome = true) (hf : ∀ j, j < m → W.frozen? ⟨g, i + j, none⟩ = false) :
    (Builtin.clear_ #[29] ty #[.slice (some ⟨g,i,none⟩) m c]).run Tryz.prog W=.ok (.tuple #[]) (W.setCells g i (List.replicate m (.slice none 0 0))):=by
 have hst:=run_storeCells_cells (P:=Tryz.prog) g i (List.replicate m (.slice none 0 0)) 0 W (by intro j hj;simp at hj;simpa using hc j hj) (by intro j hj;simp at hj;have:=hf j hj;simp) (by intro v hv;rw[List.eq_of_mem_replicate hv];rfl);simp only[Nat.add_zero] at hst;have hv:∀w,(zeroValue 49).run Tryz.prog w=.ok (.slice none 0 0) w:=fun w=>by
  obtain⟨i0,ei,ez,es,eb⟩:=info_parts infoNames;simp[zeroValue,typeInfo,ei,ez]
 have hz:(Builtin.zeroCells (Value.slice none 0 0).cells m).toList=List.replicate m (.slice none 0 0):=zero_one m _;obtain⟨k,rfl⟩:∃k,m=k+1:=⟨m - 1,by omega⟩
 simp[Builtin.clear_,run_underlying Tryz.underlying29,hv,hz,hst]
structure DelAt (q:PAlt→Bool) (P:List VP) (j i:Nat) (xs:List Value):Prop where
 len:i=((P.take j).filter fun p=> !q p.2).length
 row:∃M,M.length+i=j∧xs=((P.take j).filter fun p=> !q p.2).map (·.1) ++M ++(P.drop j).map (·.1)
theorem DelAt.at {q:PAlt→Bool} {P:List VP} {j i:Nat} {xs:List Value} (h:DelAt q P j i xs) {p:VP} (hp:P[j]? =some p):xs[j]? =some p.1:=by
 obtain⟨M,hM,hx⟩:=h.row;have hl:(((P.take j).filter fun p=> !q p.2).map (·.1) ++M).length=j:=by rw[List.length_append,List.length_map,←h.len];omega
 rw[hx,List.getElem?_append_right (by omega),hl,Nat.sub_self];obtain⟨h1,h2⟩:=List.getElem?_eq_some_iff.1 hp;rw[List.drop_eq_getElem_cons h1,h2];rfl
theorem DelAt.gone {q:PAlt→Bool} {P:List VP} {j i:Nat} {xs:List Value} (h:DelAt q P j i xs) {p:VP} (hp:P[j]? =some p) (hq:q p.2=true):DelAt q P (j+1) i xs:=by
 obtain⟨M,hM,hx⟩:=h.row;have ht:P.take (j+1)=P.take j ++ [p]:=take_snoc hp;have hf:(P.take (j+1)).filter (fun p=> !q p.2)=(P.take j).filter fun p=> !q p.2:=by rw[ht,List.filter_append];simp[hq]
 refine⟨by rw[hf];exact h.len,M ++ [p.1],by simp;omega,?_⟩;rw[hf,hx,drop_at hp];simp
theorem DelAt.kept {q:PAlt→Bool} {P:List VP} {j i:Nat} {xs:List Value} (h:DelAt q P j i xs) {p:VP} (hp:P[j]? =some p) (hq:q p.2=false) (hij:i<j):DelAt q P (j+1) (i+1) (xs.set i p.1):=by
 obtain⟨M,hM,hx⟩:=h.row;have ht:P.take (j+1)=P.take j ++ [p]:=take_snoc hp;have hf:(P.take (j+1)).filter (fun p=> !q p.2)=((P.take j).filter fun p=> !q p.2) ++ [p]:=by rw[ht,List.filter_append];simp[hq]
 cases M with
 | nil=>simp at hM;omega
 | cons m0 M=>
  refine⟨by rw[hf,List.length_append,←h.len];rfl,M ++ [p.1],by simp at hM⊢;omega,?_⟩;have hl:(((P.take j).filter fun p=> !q p.2).map (·.1)).length=i:=by rw[List.length_map];exact h.len.symm
  rw[hf,hx,drop_at hp,List.append_assoc,List.set_append_right _ _ (by omega),hl,Nat.sub_self];simp
theorem meet1_of (B B2 p : Nat) (a a2 : Option Addr) (c c2 : Nat) (x : PAlt) (y : List PAlt) (w : World) (hx : AltV B w (.slice a x.length c) x) (hxl : x.length ≤ 1000) (hy : AltsV 49 B2 w (.slice a2 y.length c2) y) (hyl : y.length ≤ 100000) (hm : ∀ z ∈ y, z.length ≤ 1000) (hp : Blk w p #[.slice a2 y.length c2]) :
    Calls Tryz.prog 44 #[.slice a x.length c,.pointer (some ⟨p,0,none⟩)] w (Makes (.bool (!y.any fun z=>decide (z=x))) w):=by
 have HH:=qq (has29_of B2 B a c _ y x w hy hyl hm hx hxl);have c0:w.cell? ⟨p,0,none⟩=some (.slice a2 y.length c2):=hp.cell 0;have hpl:=hp.lt;generalize(y.any fun z=>decide (z=x))=r at*;generalize x.length=nx at*;generalize y.length=ny at*;clear hx hy hm hp;go_enter Tryz.func44,Tryz.ntmps44;go_wp2_with fail;refine HH.out.mono ?_;rintro e w1 ⟨rfl,hb1⟩;go_wp2_with fail;go_ret;exact⟨rfl,hb1⟩
theorem indexS_meet (cap : Value) (q : PAlt → Bool) (B : Nat) (av : Value) (l : List PAlt) (w : World) (hrow : AltsV 49 B w av l) (hl : l.length ≤ 100000)
    (hp:∀(W:World) (x:PAlt) (a:Option Addr) (c:Nat),Below w.heap.size w W→x∈l→AltV B W (.slice a x.length c) x→Calls Tryz.prog 44 #[.slice a x.length c,cap] W (Makes (.bool (q x)) W)):
    Calls Tryz.prog 67 #[av,.func (.func 44) #[] #[cap]] w (Makes (.int .i64 (rix (l.findIdx? q))) w):=by
 have HR:=qq (fun W (hW:Below w.heap.size w W)=>hrow.below hW);have HP:=qq hp;obtain⟨a,c,rfl⟩:=hrow.row;obtain⟨n,hn⟩:∃n,n=l.length:=⟨_,rfl⟩
 rw[←hn] at hl⊢;have HN:=qq hn;clear hp hrow hn;go_enter Tryz.func67,Tryz.ntmps67;go_wp2_with fail;go_loopw [8] (fun i wr=>∃k:Nat,k≤n∧i=.int .i64 (k:Nat)∧Hid (∀(j:Nat) (h:j<l.length),j<k→q l[j]=false)∧Hid (Below w.heap.size w wr)) (fun i _=>n - (intOf i).toNat)
 case atStart=>exact⟨0,by omega,by go_num,qq (fun j _ h=>absurd h (by omega)),qq (Below.refl _ _)⟩
 case round=>
  obtain⟨k,hk,rfl,HBE,HB⟩:=hrel;have hk0:(0:Int)≤(k:Int):=by omega
  by_cases hlt:k<n
  · have hks:k<l.length:=by rw[←HN.out];exact hlt
    have hki:(k:Int)<(n:Int):=by omega
    obtain⟨x,hx⟩:∃x,l[k]? =some x:=⟨_,List.getElem?_eq_getElem hks⟩
    have hxe:l[k]=x:=(List.getElem?_eq_some_iff.1 hx).2;obtain⟨g,ax,cx,cap',e1,hxv,hcell,hgl⟩:=alts_at (HR.out _ HB.out) k x hx;injection e1 with e1a e1n e1b
    clear e1n;subst e1a e1b;have c0:=hcell wr (Below.refl _ _);have HC:=qq (fun W (hW:Below wr.heap.size wr W)=>HP.out W x ax cx (below_then HB.out hW) (List.mem_of_getElem? hx) (row_be hxv hW));obtain⟨t,ht⟩:∃t,t=q x:=⟨_,rfl⟩
    rw[←ht] at HC;have HT:Hid (t=q l[k]):=qq (by rw[hxe];exact ht);obtain⟨nx,hnx⟩:∃q,q=x.length:=⟨_,rfl⟩
    rw[←hnx] at HC c0;clear ht hcell hx hxv hxe hnx;go_wp2_with fail;refine(HC.out _ (by go_grown)).mono ?_;rintro e w1 ⟨rfl,hb1⟩;have HB1:=qq (below_then HB.out hb1);clear hb1 c0
    cases t with
    | true=>
     have HF:Hid (rix (l.findIdx? q)=(k:Int)):=qq (by
       have:l.findIdx? q=some k:=List.findIdx?_eq_some_iff_getElem.2 ⟨hks,HT.out.symm,fun j hj=>by have:=HBE.out j (by omega) hj;simp[this]⟩;rw[this];rfl)
     go_wp2_with fail;go_ret;exact⟨by rw[HF.out];rfl,HB1.out⟩
    | false=>
     have HBE2:Hid (∀(j:Nat) (h:j<l.length),j<k+1→q l[j]=false):=qq (fun j h hj=>by
       rcases Nat.lt_or_eq_of_le (Nat.le_of_lt_succ hj) with h1 | h1
       · exact HBE.out j h h1
       · subst h1;exact HT.out.symm)
     go_wp2_with fail;go_roundw
     case rel=>exact⟨k+1,by omega,by go_num,HBE2,HB1⟩
     case measure=>simp[intOf];omega
  · obtain rfl:k=n:=by omega
    have HF:Hid (rix (l.findIdx? q)= -1):=qq (by
      have:l.findIdx? q=none:=by
        rw[List.findIdx?_eq_none_iff];intro x hx;obtain⟨j,hj,rfl⟩:=List.getElem_of_mem hx;have:=HBE.out j hj (by rw[HN.out];exact hj);simp[this]
      rw[this];rfl)
    go_wp2_with fail;go_ret;exact⟨by rw[HF.out];rfl,HB.out⟩
def DelEnds (B:Nat) (q:PAlt→Bool) (l:List PAlt) (w:World) (o:Option Nat) (e:Ending) (w':World):Prop:=
 ∃v,e=.returned v∧AltsV 49 B w' v (l.filter fun x=> !q x)∧w.grownBy w' o
theorem delete_of (cap : Value) (q : PAlt → Bool) (B : Nat) (av : Value) (l : List PAlt) (w : World) (hrow : AltsV 49 B w av l) (hl : l.length ≤ 1000)
    (hp:∀(W:World) (x:PAlt) (a:Option Addr) (c:Nat),w.grownBy W av.ownBlock→x∈l→AltV B W (.slice a x.length c) x→Calls Tryz.prog 44 #[.slice a x.length c,cap] W (Makes (.bool (q x)) W)):
    Calls Tryz.prog 43 #[av,.func (.func 44) #[] #[cap]] w (DelEnds B q l w av.ownBlock):=by
 have hne:49≠9:=by decide
 have HNE:=qq hne;have HI:=qq (indexS_meet cap q B av l w hrow (by omega) (fun W x a c hW hx hv=>hp W x a c (gr_of_below _ hW) hx hv));have HRES:Hid (∀v w',AltsV 49 B w' v (l.filter fun x=> !q x)→w.grownBy w' av.ownBlock→DelEnds B q l w av.ownBlock (.returned v) w'):=qq (fun v w' h1 h2=>⟨v,rfl,h1,h2⟩);generalize DelEnds B q l w av.ownBlock=R at HRES⊢;obtain⟨P,hPl,hPr,hPa⟩:=alts_pairs hrow
 cases hf:l.findIdx? q with
 | none=>
  rw[hf] at HI;have hall:l.filter (fun x=> !q x)=l:=by
   rw[List.filter_eq_self];intro x hx;rw[List.findIdx?_eq_none_iff] at hf;rw[hf x hx];rfl
  have HF:=qq (fun w' (hb:Below w.heap.size w w')=>HRES.out av w' (by rw[hall];exact hrow.below hb) (gr_of_below _ hb));obtain⟨a,c,rfl⟩:=hrow.row;have hrx:rix none= -1:=rfl;rw[hrx] at HI;generalize l.length=n at*;clear hrow hp hPl hPr hPa hf hall HRES hne hrx;go_enter Tryz.func43,Tryz.ntmps43;go_wp2_with fail;refine HI.out.mono ?_;rintro e w1 ⟨rfl,hb1⟩;have HFF:=qq (HF.out w1 hb1);go_wp2_with fail
  (try go_ret)
  exact HFF.out
 | some i0=>
  rw[hf] at HI;obtain⟨hi0,hqi,hbe⟩:=List.findIdx?_eq_some_iff_getElem.1 hf;have hPn:P.length=l.length:=by rw[hPl];simp
  obtain⟨g,cp,rfl⟩:∃g cp,av=.slice (some ⟨g,0,none⟩) l.length cp:=by
   rcases hPr.2 with⟨_,h0⟩ | ⟨g,cp,cur,hv,_⟩
   · omega
   · exact⟨g,cp,by rw[←hPn];exact hv⟩
  rw[hPn] at hPr;have HR0:=qq hPr;have hcap:=row_cap hPr;have hown:(Value.slice (some ⟨g,0,none⟩) l.length cp).ownBlock=some g:=rfl;rw[hown] at HRES hp;have hq0:∀j (x:VP),j<i0→P[j]? =some x→q x.2=false:=fun j x hj hx=>by
   have hjl:j<l.length:=by omega
   have:=hbe j hj;have e:l[j]=x.2:=by
    have h1:l[j]? =some x.2:=by rw[hPl,List.getElem?_map,hx];rfl
    exact(List.getElem?_eq_some_iff.1 h1).2
   rw[e] at this;simpa using this
  have hfil:(P.take i0).filter (fun p=> !q p.2)=P.take i0:=by
   rw[List.filter_eq_self];intro x hx;obtain⟨j,hj,rfl⟩:=List.getElem_of_mem hx;rw[List.length_take] at hj;rw[hq0 j _ (by omega) (by rw[List.getElem_take];exact List.getElem?_eq_getElem (by omega))];rfl
  have HD0:Hid (DelAt q P i0 i0 (P.map (·.1))):=qq ⟨by rw[hfil,List.length_take];omega,[],by simp,by rw[hfil];simp[←List.map_append]⟩;obtain⟨p0,hp0⟩:∃p0,P[i0]? =some p0:=⟨_,List.getElem?_eq_getElem (by omega)⟩
  have hqp0:q p0.2=true:=by
   have h1:l[i0]? =some p0.2:=by rw[hPl,List.getElem?_map,hp0];rfl
   have e:l[i0]=p0.2:=(List.getElem?_eq_some_iff.1 h1).2;rw[e] at hqi;exact hqi
  have HD1:=qq (HD0.out.gone hp0 hqp0);have HPA:=qq hPa;have HPL:=qq hPl;have HFILT:Hid (l.filter (fun x=> !q x)=(P.filter fun p=> !q p.2).map (·.2)):=qq (by rw[hPl,List.filter_map];rfl);have HP:=qq hp;have hrx:rix (some i0)=(i0:Int):=rfl;rw[hrx] at HI;obtain⟨n,hn⟩:∃n,n=l.length:=⟨_,rfl⟩
  have HN:=qq hn;have HPN:Hid (P.length=n):=qq (by rw[hPn,hn]);rw[←hn] at HI HR0 hl hcap hi0⊢;obtain⟨hnc,hgl,hgB,_⟩:=hcap;have hI0:(0:Int)≤(i0:Int):=by omega
  have hI1:¬((i0:Int)= -1):=by omega
  have hI2:((i0:Int)== -1)=false:=by simp
  clear hrow hp hPl hPr hPa hf hne hrx hq0 hfil hp0 hqp0 hqi hbe hn hPn hown;go_enter Tryz.func43,Tryz.ntmps43;go_wp2_with fail;refine HI.out.mono ?_;rintro e w1 ⟨rfl,hb1⟩;have HR1:=qq (row_be HR0.out hb1);have HG1:=qq (gr_of_below (some g) hb1);clear hb1;go_wp2_with fail
  go_loopw [5,6] (fun iv jv wr=>∃(i j:Nat) (xs:List Value),i<j∧j≤n∧iv=.int .i64 (i:Int)∧jv=.int .i64 (j:Int)∧Hid (DelAt q P j i xs)∧Hid (wr.ownsRow B 49 1 (.slice (some ⟨g,0,none⟩) n cp) n xs)∧Hid (w.grownBy wr (some g))) (fun _ jv _=>n - (intOf jv).toNat)
  case atStart=>exact⟨i0,i0+1,_,by omega,by omega,by first | rfl | go_num,by go_num,HD1,HR1,HG1⟩
  case round=>
   obtain⟨i,j,xs,hij,hjn,rfl,rfl,HD,HR,HG⟩:=hrel;have hi0':(0:Int)≤(i:Int):=by omega
   have hj0:(0:Int)≤(j:Int):=by omega
   have hgz:=HG.out.size;by_cases hlt:j<n
   · have hj1:(j:Int)<(n:Int):=by omega
     obtain⟨p,hp⟩:∃p,P[j]? =some p:=⟨_,List.getElem?_eq_getElem (by rw[HPN.out];exact hlt)⟩
     have hc:=(row_cell1 HR.out (HD.out.at hp)).1;have hav:=alt_gro HNE.out (v:=.slice (some ⟨g,0,none⟩) n cp) (HPA.out p (List.mem_of_getElem? hp)) HG.out HR0.out;obtain⟨v,x⟩:=p;dsimp only at hc hav;obtain⟨ax,cx,rfl⟩:=row_slice hav;have HC:=qq (HP.out wr x ax cx HG.out (by rw[HPL.out];exact List.mem_map.2 ⟨_,List.mem_of_getElem? hp,rfl⟩) hav);have HPJ:=qq hp;obtain⟨t,ht⟩:∃t,t=q x:=⟨_,rfl⟩
     rw[←ht] at HC;have HT:=qq ht;obtain⟨nx,hnx⟩:∃m,m=x.length:=⟨_,rfl⟩
     have HNX:=qq hnx;rw[←hnx] at HC hc;clear hav hp ht hnx;go_wp2_with fail;refine HC.out.mono ?_;rintro e w2 ⟨rfl,hb2⟩;have HR2:=qq (row_be HR.out hb2);have HG2:=qq (gr_tr HG.out (gr_of_below (some g) hb2));clear hb2 hc
     cases t with
     | true=>
      have HD2:=qq (HD.out.gone HPJ.out HT.out.symm);go_wp2_with fail;go_roundw
      case rel=>exact⟨i,j+1,xs,by omega,by omega,by first | rfl | go_num,by go_num,HD2,HR2,HG2⟩
      case measure=>simp[intOf];omega
     | false=>
      have HD2:=qq (HD.out.kept HPJ.out HT.out.symm hij);dsimp only at HD2;rw[←HNX.out] at HD2;have hin:(i:Int)<(n:Int):=by omega
      obtain⟨u,hu⟩:∃u,xs[i]? =some u:=⟨_,List.getElem?_eq_getElem (by have:=(row_cap HR2.out).2.2.2;omega)⟩
      obtain⟨ci,fi⟩:=row_cell1 HR2.out hu;have HR3:=qq (row_set HR2.out i (.slice ax nx cx) (by omega));have HG3:=qq (gr_setb HG2.out i (.slice ax nx cx));clear hu;go_wp2_with fail;go_roundw
      case rel=>exact⟨i+1,j+1,_,by omega,by omega,by go_num,by go_num,HD2,HR3,HG3⟩
      case measure=>simp[intOf];omega
   · obtain rfl:n=j:=by omega
     have hin:(i:Int)≤(n:Int):=by omega
     have hicp:¬cp=i:=by omega
     have hicp2:(n:Int)≤(cp:Int):=by omega
     have hxl:=(row_cap HR.out).2.2.2;have hcl:=fun ty=>clear_S wr ty g i (n - i) (cp - i) (by omega) (fun k hk=>by
       obtain⟨u,hu⟩:∃u,xs[i+k]? =some u:=⟨_,List.getElem?_eq_getElem (by omega)⟩
       rw[(row_cell1 HR.out hu).1];rfl) (fun k hk=>by
       obtain⟨u,hu⟩:∃u,xs[i+k]? =some u:=⟨_,List.getElem?_eq_getElem (by omega)⟩
       exact(row_cell1 HR.out hu).2)
     obtain⟨xs',hr',hx'⟩:=row_sets (List.replicate (n - i) (.slice none 0 0)) i wr xs HR.out (by simp;omega);have hg':=gr_sets (List.replicate (n - i) (.slice none 0 0)) i wr HG.out;have hend:(P.take n).filter (fun p=> !q p.2)=P.filter fun p=> !q p.2:=by rw[←HPN.out,List.take_length]
     obtain⟨M,hM,hxs⟩:=HD.out.row;have hil:=HD.out.len;rw[hend] at hil hxs;have htk:xs'.take i=(P.filter fun p=> !q p.2).map (·.1):=by
      apply List.ext_getElem?;intro k;rw[List.getElem?_take];by_cases hk:k<i
      · rw[if_pos hk,hx' k hk,hxs,List.append_assoc,List.getElem?_append_left (by rw[List.length_map];omega)]
      · rw[if_neg hk,List.getElem?_eq_none (by rw[List.length_map];omega)]
     have hrow:=row_pre hr' (by omega:i≤n);rw[htk] at hrow;have HFIN:Hid (R (.returned (.slice (some ⟨g,0,none⟩) i cp)) (wr.setCells g i (List.replicate (n - i) (.slice none 0 0)))):=qq (HRES.out _ _ (by
       rw[HFILT.out];exact pairs_alts (by rw[←hil];exact hrow) (fun p hp=>alt_gro HNE.out (v:=.slice (some ⟨g,0,none⟩) n cp) (HPA.out p ((List.mem_filter.1 hp).1)) hg' HR0.out)) hg')
     generalize hW:wr.setCells g i (List.replicate (n - i) (.slice none 0 0))=w9 at*;clear hr' hx' hg' hend hM hxs hil htk hrow hxl;go_wp2_with fail
     (try go_ret)
     exact HFIN.out
end Go.Proofs.YtbepkpjcjpmpmaaGreatDoor
