/- StoS, StoV, PaA, PaB, BuA, PaC, MovS, DoP, DoA, RfcA -/
import Derived.Test.YtlkajejbfojkeaaGreatDoorPStoQ
import Derived.Test.YtlkajejbfojkeaaGreatDoorPStoF
import Derived.Test.YtlkajejbfojkeaaGreatDoorPStoH
import Derived.Test.YtlkajejbfojkeaaGreatDoorPStoLToStoD
set_option linter.unusedSimpArgs false
set_option linter.unusedVariables false
set_option maxRecDepth 100000
set_option maxHeartbeats 16000000
namespace Go.Proofs.YtlkajejbfojkeaaGreatDoor
open Go.RowKit
theorem EnvS.err3 {ea:Int→Addr} {w:World} (h:EnvS ea w):Err3 ea w:=⟨h.e.e1,h.e.e4,h.e.e14⟩
theorem ends_ok {L:SLoc} {T:Sto} {ea:Int→Addr} {w:World} {P:Sto×Int} (h:P=(T,0)):ApplyEnds L T (if true=true then 0 else 9) ea w=ApplyEnds L P.1 P.2 ea w:=by rw[h];rfl
theorem ends_no {L:SLoc} {T:Sto} {ea:Int→Addr} {w:World} {P:Sto×Int} (h:P=(T,9)):ApplyEnds L T (if false=true then 0 else 9) ea w=ApplyEnds L P.1 P.2 ea w:=by rw[h];rfl
theorem apply_of (L : SLoc) (S : Sto) (f : SFact) (ea : Int → Addr) (w : World) (hx : F64 f.ex) (hE : EnvG L ea w) (h : StoreAt L S w) (hG : StoGood S) :
    Calls Tryz.prog 21 #[.pointer (some ⟨L.sb,0,none⟩),factV f] w (ApplyEnds L (sapply S f).1 (sapply S f).2 ea w):=by
 cases hok:fok f with
 | false=>
  have e:sapply S f=(S,4):=by unfold sapply;rw[if_pos hok]
  rw[e];exact apply_bad L S f ea w hx hE h hok
 | true=>
  have hs:∀T,sput S f=some T→sapply S f=(T,0):=fun T hT=>by unfold sapply;rw[if_neg (by rw[hok];simp),hT]
  have hn:sput S f=none→sapply S f=(S,9):=fun hT=>by unfold sapply;rw[if_neg (by rw[hok];simp),hT]
  have hkk:=fok_any hok;by_cases k1:f.k=1
  · obtain⟨f1,f2,f3⟩:=fok1 hok k1;have fi:=ctxOk_id f1;by_cases c1:f.an=S.node
    case neg=>
     have e:sput S f=none:=by unfold sput;rw[if_pos k1,if_pos (.inl c1)]
     rw[←ends_no (hn e)];exact apply_open L S f false ea w hx hE hok k1 (fun W hW=>(opened_no1 L S f W (h.below hW) hG ⟨f2,f3⟩ c1))
    by_cases c2:S.next≤f.aq
    case neg=>
     have e:sput S f=none:=by unfold sput;rw[if_pos k1,if_pos (.inr (.inl (by omega)))]
     rw[←ends_no (hn e)];exact apply_open L S f false ea w hx hE hok k1 (fun W hW=>(opened_no2 L S f W (h.below hW) hG ⟨f2,f3⟩ c1 (by omega)))
    by_cases c3:S.acts.length<8
    case neg=>
     have e:sput S f=none:=by unfold sput;rw[if_pos k1,if_pos (.inr (.inr (.inl (by omega))))]
     rw[←ends_no (hn e)];exact apply_open L S f false ea w hx hE hok k1 (fun W hW=>(opened_no3 L S f W (h.below hW) hG ⟨f2,f3⟩ c1 c2 (by omega)))
    by_cases c4:0<f.pa→f.pa≤(S.parts.length:Int)∧schild S f.pa=none
    · have e:sput S f=some {S with next:=f.aq+1,acts:=S.acts ++ [⟨f.an,f.aq,f.oc,f.dp,f.ex,f.pa,0,[]⟩]}:=by
       unfold sput;rw[if_pos k1,if_neg];rintro(e | e | e | ⟨e1,e2⟩)
       · exact e c1
       · omega
       · omega
       · obtain⟨q1,q2⟩:=c4 e1;rcases e2 with e2 | e2
         · omega
         · rw[q2] at e2;cases e2
      rw[←ends_ok (hs _ e)];exact apply_open L _ f true ea w hx hE hok k1 (fun W hW=>(opened_yes L S f W (h.below hW) hG ⟨fi.2.2.1,fi.2.2.2⟩ ⟨f2,f3⟩ c1 c2 c3 c4))
    · have c5:0<f.pa:=Decidable.byContradiction fun e=>c4 (fun e'=>absurd e' e)
      by_cases c6:f.pa≤(S.parts.length:Int)
      · cases hc:schild S f.pa with
        | none=>exact absurd (fun _=>⟨c6,hc⟩) c4
        | some i=>
         have e:sput S f=none:=by unfold sput;rw[if_pos k1,if_pos (.inr (.inr (.inr ⟨c5,.inr (by rw[hc];rfl)⟩)))]
         rw[←ends_no (hn e)];exact apply_open L S f false ea w hx hE hok k1 (fun W hW=>(opened_no5 L S f W (h.below hW) hG ⟨f2,f3⟩ i c1 c2 c3 c5 c6 hc))
      · have e:sput S f=none:=by unfold sput;rw[if_pos k1,if_pos (.inr (.inr (.inr ⟨c5,.inl (by omega)⟩)))]
        rw[←ends_no (hn e)];exact apply_open L S f false ea w hx hE hok k1 (fun W hW=>(opened_no4 L S f W (h.below hW) hG ⟨f2,f3⟩ c1 c2 c3 c5 (by omega)))
  by_cases k6:f.k=6
  · obtain⟨f1,f2,f3,f4,f5⟩:=fok6 hok k6;by_cases c:f.pt=(S.parts.length:Int)
    · have e:sput S f=some {S with parts:=S.parts ++ [⟨f.an,f.aq,-1,⟨f.pr,2,1,0⟩⟩]}:=by unfold sput;rw[if_neg k1,if_pos k6,if_neg (by simp[c])]
      rw[←ends_ok (hs _ e)];exact apply_join L _ f true ea w hx hE hok k6 (fun W hW=>(joined_yes L S f W (h.below hW) hG ⟨f4,f5⟩ c))
    · have e:sput S f=none:=by unfold sput;rw[if_neg k1,if_pos k6,if_pos c]
      rw[←ends_no (hn e)];exact apply_join L S f false ea w hx hE hok k6 (fun W hW=>(joined_no L S f W (h.below hW) hG ⟨f4,f5⟩ c))
  by_cases k78:f.k=7∨f.k=8
  · have h0:0≤f.pt:=by
     rcases k78 with k | k
     · exact(fok7 hok k).1
     · exact(fok8 hok k).1
    by_cases c:f.pt<(S.parts.length:Int)
    case neg=>
     have e:sput S f=none:=by
      unfold sput;rw[if_neg k1,if_neg k6,if_pos k78,List.getElem?_eq_none (by omega)]
     rw[hn e];exact apply_nopart L S f ea w hx hE h hok k78 (fun x=>c x.2)
    obtain⟨i,hi⟩:∃i:Nat,f.pt=(i:Int):=⟨f.pt.toNat,by omega⟩
    have hil:i<S.parts.length:=by omega
    have hp:S.parts[i]? =some S.parts[i]:=List.getElem?_eq_getElem hil;have hit:f.pt.toNat=i:=by omega
    obtain⟨p,hpe⟩:∃p,p=S.parts[i]:=⟨_,rfl⟩
    rw[←hpe] at hp;by_cases k8:f.k=8
    · cases ht:sturn p.seat f.st f.hw with
      | none=>
       have e:sput S f=none:=by
        unfold sput;rw[if_neg k1,if_neg k6,if_pos k78,hit,hp];simp only;rw[if_pos k8,ht];rfl
       rw[←ends_no (hn e)];exact apply_part L S S f false ea w hx hE h hok k78 ⟨h0,c⟩ (fun W hW=>parted8_no L S f i p ea W (hE.below hW).err3 (h.below hW) k8 hi hp ht)
      | some t=>
       have e:sput S f=some {S with parts:=S.parts.set i {p with seat:=t}}:=by
        unfold sput;rw[if_neg k1,if_neg k6,if_pos k78,hit,hp];simp only;rw[if_pos k8,ht];rfl
       rw[←ends_ok (hs _ e)];exact apply_part L S _ f true ea w hx hE h hok k78 ⟨h0,c⟩ (fun W hW=>parted8_yes L S f i p t ea W (hE.below hW).err3 (h.below hW) k8 hi hp ht)
    · have k7:=k78.resolve_right k8;by_cases hr:p.rg= -1
      · have e:sput S f=some {S with parts:=S.parts.set i {p with rg:=f.rg}}:=by
         unfold sput;rw[if_neg k1,if_neg k6,if_pos k78,hit,hp];simp only;rw[if_neg k8,if_neg (by simp[hr])]
        rw[←ends_ok (hs _ e)];exact apply_part L S _ f true ea w hx hE h hok k78 ⟨h0,c⟩ (fun W hW=>parted7_yes L S f i p W (h.below hW) k7 hi hp hr)
      · have e:sput S f=none:=by
         unfold sput;rw[if_neg k1,if_neg k6,if_pos k78,hit,hp];simp only;rw[if_neg k8,if_pos hr]
        rw[←ends_no (hn e)];exact apply_part L S S f false ea w hx hE h hok k78 ⟨h0,c⟩ (fun W hW=>parted7_no L S f i p W (h.below hW) k7 hi hp hr)
  have hk4:f.k≠1∧f.k≠6∧f.k≠7∧f.k≠8:=⟨k1,k6,fun e=>k78 (.inl e),fun e=>k78 (.inr e)⟩
  cases hi:sfind S f.an f.aq with
  | none=>
   have e:sput S f=none:=by unfold sput;rw[if_neg k1,if_neg k6,if_neg k78,hi]
   rw[hn e];exact apply_noact L S f ea w hx hE h hG hok hk4 hi
  | some i=>
   have hil:i<S.acts.length:=by unfold sfind at hi;exact(List.findIdx?_eq_some_iff_getElem.1 hi).1
   obtain⟨a,ha⟩:∃a,S.acts[i]? =some a:=⟨_,List.getElem?_eq_getElem hil⟩
   obtain⟨x,hxi⟩:∃x,L.ab[i]? =some x:=⟨_,List.getElem?_eq_getElem (by rw[h.len];exact hil)⟩
   have hA:=hG.act a (List.mem_of_getElem? ha);have hl:=hA.len;have hsp:sput S f=if f.k=5 then(if(a.regs.any fun r=>decide (r.seat.s≠14))=true then none else some {S with acts:=S.acts.take i ++S.acts.drop (i+1)}) else(sact a f).map fun b=>{S with acts:=S.acts.set i b}:=by
    unfold sput;rw[if_neg k1,if_neg k6,if_neg k78,hi];simp only;rw[ha]
   have yes:∀T,sput S f=some T→(∀W,Below w.heap.size w W→Calls Tryz.prog 89 #[.pointer (some ⟨L.sb,0,none⟩),.pointer (some ⟨x.1,0,none⟩),factV f] W fun e w'=>e=.returned (.bool true)∧SGoes L T W w')→Calls Tryz.prog 21 #[.pointer (some ⟨L.sb,0,none⟩),factV f] w (ApplyEnds L (sapply S f).1 (sapply S f).2 ea w):=fun T hT hC=>by
    rw[←ends_ok (hs _ hT)];exact apply_act L S T f i x true ea w hx hE h hG hok hk4 hi hxi hC
   have no:sput S f=none→(∀W,Below w.heap.size w W→Calls Tryz.prog 89 #[.pointer (some ⟨L.sb,0,none⟩),.pointer (some ⟨x.1,0,none⟩),factV f] W fun e w'=>e=.returned (.bool false)∧SGoes L S W w')→Calls Tryz.prog 21 #[.pointer (some ⟨L.sb,0,none⟩),factV f] w (ApplyEnds L (sapply S f).1 (sapply S f).2 ea w):=fun hT hC=>by
    rw[←ends_no (hn hT)];exact apply_act L S S f i x false ea w hx hE h hG hok hk4 hi hxi hC
   have hxl:∀W,Below w.heap.size w W→StoreAt L S W:=fun W hW=>h.below hW
   by_cases k5:f.k=5
   · rw[if_pos k5] at hsp
     cases hany:(a.regs.any fun r=>decide (r.seat.s≠14)) with
     | true=>
      rw[hany,if_pos rfl] at hsp;exact no hsp (fun W hW=>acted_5n L S f i x a W (hxl W hW) hxi ha hl k5 hany)
     | false=>
      rw[hany,if_neg (by simp)] at hsp;exact yes _ hsp (fun W hW=>acted_5y L S f i x a W (hxl W hW) hG hxi ha hl k5 hany)
   rw[if_neg k5] at hsp;by_cases k2:f.k=2
   · obtain⟨f1,f2,f3,f4,f5,f6,f7,f8,f9⟩:=fok2 hok k2;by_cases c1:f.rg=(a.regs.length:Int)
     case neg=>
      have e:sact a f=none:=by unfold sact;rw[if_pos k2,if_pos (.inl c1)]
      rw[e] at hsp;exact no hsp (fun W hW=>acted_2 L S f x.1 false W k2 (fun W' hW'=>enrolled_no1 L S f i x a W' ((hxl W hW).below hW') hl hxi ha ⟨f8,f9⟩ c1))
     by_cases c2:a.de=0
     case neg=>
      have e:sact a f=none:=by unfold sact;rw[if_pos k2,if_pos (.inr (.inl c2))]
      rw[e] at hsp;exact no hsp (fun W hW=>acted_2 L S f x.1 false W k2 (fun W' hW'=>enrolled_no2 L S f i x a W' ((hxl W hW).below hW') hl hxi ha ⟨f8,f9⟩ c1 c2))
     cases hany:(a.regs.any fun r=>decide (r.n=f.nd∧r.p=f.pt)) with
     | true=>
      have e:sact a f=none:=by unfold sact;rw[if_pos k2,if_pos (.inr (.inr hany))]
      rw[e] at hsp;exact no hsp (fun W hW=>acted_2 L S f x.1 false W k2 (fun W' hW'=>enrolled_no3 L S f i x a W' ((hxl W hW).below hW') hl hxi ha ⟨f8,f9⟩ c1 c2 hany))
     | false=>
      have e:sact a f=some {a with regs:=a.regs ++ [⟨f.nd,f.pt,⟨f.pr,1,1,0⟩⟩]}:=by
       unfold sact;rw[if_pos k2,if_neg];rintro(e | e | e)
       · exact e c1
       · exact e c2
       · rw[hany] at e;cases e
      rw[e] at hsp;exact yes _ hsp (fun W hW=>acted_2 L _ f x.1 true W k2 (fun W' hW'=>enrolled_yes L S f i x a W' ((hxl W hW).below hW') hl hxi ha ⟨f8,f9⟩ c1 c2 hany))
   by_cases k3:f.k=3
   · obtain⟨f1,f2,f3,f4⟩:=fok3 hok k3;have hsa : sact a f = match a.regs[f.rg.toNat]? with
         | none=>none
         | some r=>(sturn r.seat f.st f.hw).map fun t=>{a with regs:=a.regs.set f.rg.toNat {r with seat:=t}}:=by
      unfold sact;rw[if_neg k2,if_pos k3];cases a.regs[f.rg.toNat]? <;>rfl
     by_cases c1:f.rg<(a.regs.length:Int)
     case neg=>
      have e:sact a f=none:=by rw[hsa,List.getElem?_eq_none (by omega)]
      rw[e] at hsp;exact no hsp (fun W hW=>acted_3o L S f i x a W (hxl W hW) hxi ha hl k3 (by omega))
     obtain⟨j,hj⟩:∃j:Nat,f.rg=(j:Int):=⟨f.rg.toNat,by omega⟩
     have hjt:f.rg.toNat=j:=by omega
     obtain⟨r,hr⟩:∃r,a.regs[j]? =some r:=⟨_,List.getElem?_eq_getElem (by omega)⟩
     rw[hjt,hr] at hsa;simp only at hsa
     cases ht:sturn r.seat f.st f.hw with
     | none=>
      rw[ht] at hsa;rw[hsa] at hsp;exact no hsp (fun W hW=>acted_3n L S f i j x a r ea W (hE.below hW).err3 (hxl W hW) hxi ha hl k3 hj hr ht)
     | some t=>
      rw[ht] at hsa;rw[hsa] at hsp;exact yes _ hsp (fun W hW=>acted_3y L S f i j x a r t ea W (hE.below hW).err3 (hxl W hW) hxi ha hl k3 hj hr ht)
   have k4:f.k=4:=by omega
   have hsa:sact a f=if a.oc≠1∨a.de≠0 then none else some {a with de:=f.de}:=by
    unfold sact;rw[if_neg k2,if_neg k3]
   by_cases c:a.oc≠1∨a.de≠0
   · rw[hsa,if_pos c] at hsp;exact no hsp (fun W hW=>acted_4n L S f i x a W (hxl W hW) hxi ha k4 c)
   · rw[hsa,if_neg c] at hsp;exact yes _ hsp (fun W hW=>acted_4y L S f i x a W (hxl W hW) hxi ha k4 (Decidable.byContradiction fun e=>c (.inl e)) (Decidable.byContradiction fun e=>c (.inr e)))
attribute [local go_sem] store_float
theorem node_of (L:SLoc) (S:Sto) (w:World) (h:StoreAt L S w):Calls Tryz.prog 94 #[.pointer (some ⟨L.sb,0,none⟩)] w (Gives (.int .i64 S.node) w):=by
 have c0:w.cell? ⟨L.sb,0,none⟩=some (.int .i64 S.node):=h.blk.cell 0;clear h;generalize S.node=x at*;go_enter Tryz.func94,Tryz.ntmps94;go_wp2;go_ret;exact⟨rfl,rfl⟩
theorem cloneReg_of (v : Value) (xs : List SReg) (w : World) (h : w.ownsRow 0 55 6 v xs.length (regsL xs)) (hl : xs.length ≤ 1000) :
    Calls Tryz.prog 202 #[v] w fun e w'=>∃v',e=.returned v'∧w'.ownsRow w.heap.size 55 6 v' xs.length (regsL xs)∧Below w.heap.size w w':=by
 obtain⟨i0,ei,ez,es,eb⟩:=info_parts infoReg;have q22:∀(w:World) (a:Option Addr) (n c n' c':Nat),(binOp .eql 49 (.slice a n c) (.slice none n' c')).run Tryz.prog w=.ok (.bool a.isNone) w:=fun w a n c n' c'=>Lib.run_eql_slice_nil w _ _ a n c n' c' Tryz.underlying49
 rcases h.2 with⟨rfl,h0⟩ | ⟨g,cap,cur,rfl,hb,hg,hnc,hcm,hcs,htake⟩
 · have hx:xs=[]:=List.eq_nil_of_length_eq_zero h0;subst hx;clear h h0;go_enter Tryz.func202,Tryz.ntmps202;go_wp2;go_ret;exact⟨_,rfl,World.ownsRow_nil _ _ _ _,Below.refl _ _⟩
 · have hown0:(w.alloc (.cells #[] 55)).ownsRow w.heap.size 55 6 (.slice (some ⟨w.heap.size,0,none⟩) 0 0) 0 []:=
    World.ownsRow_lit w #[] 0 (Nat.le_refl _) (by decide) rfl
   have hcells:Hid (∀j u,(regsL xs)[j]? =some u→(w.alloc (.cells #[] 55)).cell? ((⟨g,0,none⟩:Addr).add j)=some u):=(h.alloc _).cells (g:=g) rfl;have h1:Hid (∀u∈regsL xs,u.oneCell'=true):=flat_one regL regL_one xs;have hlen:Hid ((regsL xs).length=xs.length*6):=flat_length _ 6 regL_len xs;clear htake hcs hg h;obtain⟨n,hn⟩:∃n,n=xs.length:=⟨_,rfl⟩
   rw[←hn] at hl hnc hlen⊢;clear hn;go_enter Tryz.func202,Tryz.ntmps202;go_wp2_with (at_builtin;go_loud (refine wpList_append_own_at _ rfl _ _ 49 rfl w.heap.size 55 i0 (.agg #[.int .i64 0,.int .i64 0,.int .i64 0,.int .i64 0,.int .i64 0,.int .i64 0]) 6 48 Tryz.underlying49 ei ez es eb rfl (by decide) _ 0 [] rfl hown0 ⟨g,0,none⟩ n cap (regsL xs) rfl hlen.out hcells.out h1.out ?c3 ?c4 ?c5 ?_))
   case c3=>unfold maxLen;omega
   case c4=>omega
   case c5=>simp
   · intro v' w1 hown1 hgrow _ hat
     (try simp only[Nat.zero_add,List.nil_append] at hown1)
     have hB:Below w.heap.size w w1:=((Below.refl _ _).alloc (Nat.le_refl _) _).grown hgrow (by simp) (fun k hk=>by simp[Value.ownBlock] at hk;omega);have HO:=qq hown1;obtain⟨a',cap',rfl⟩:=row_slice hown1;clear hown1 hgrow hat hcells h1 hlen;go_wp2;go_ret;exact⟨_,rfl,HO.out,hB⟩
theorem row_up {w:World} {B B':Nat} {e:TypeId} {size:Nat} {v:Value} {n:Nat} {xs:List Value} (h:w.ownsRow B e size v n xs) (hB:∀k,v.ownBlock=some k→B'≤k):w.ownsRow B' e size v n xs:=by
 refine⟨h.1,?_⟩;rcases h.2 with h | ⟨g,cap,cur,rfl,h2,h3⟩
 · exact .inl h
 · exact .inr ⟨g,cap,cur,rfl,hB g rfl,h3⟩
theorem row_base {w:World} {B B':Nat} {e:TypeId} {size:Nat} {v:Value} {n:Nat} {xs:List Value} (h:w.ownsRow B' e size v n xs) (hB:B≤B'):w.ownsRow B e size v n xs:=by
 refine⟨h.1,?_⟩;rcases h.2 with h | ⟨g,cap,cur,h1,h2,h3⟩
 · exact .inl h
 · exact .inr ⟨g,cap,cur,h1,Nat.le_trans hB h2,h3⟩
def ActOut (a:SAct) (w:World) (e:Ending) (w':World):Prop:=∃v',e=.returned (.tuple #[.agg (actC a v'),.bool true])∧w'.ownsRow w.heap.size 55 6 v' a.regs.length (regsL a.regs)∧Below w.heap.size w w'
abbrev act0V:Value:=.agg #[.int .i64 0,.int .i64 0,.int .i64 0,.int .i64 0,.float .f64 0,.int .i64 0,.int .i64 0,.slice none 0 0]
abbrev put8 (w:World) (b:Nat) (x0 x1 x2 x3 x4 x5 x6 x7:Value):World:=(((((((w.setCell ⟨b,0,none⟩ x0).setCell ⟨b,1,none⟩ x1).setCell ⟨b,2,none⟩ x2).setCell ⟨b,3,none⟩ x3).setCell ⟨b,4,none⟩ x4).setCell ⟨b,5,none⟩ x5).setCell ⟨b,6,none⟩ x6).setCell ⟨b,7,none⟩ x7
theorem heap8 (w:World) (b:Nat) (x0 x1 x2 x3 x4 x5 x6 x7:Value) (k:Nat) (hk:k≠b):(put8 w b x0 x1 x2 x3 x4 x5 x6 x7).heap[k]? =w.heap[k]? :=by
 unfold put8;rw[Below.heap_setCell _ _ _ _ hk,Below.heap_setCell _ _ _ _ hk,Below.heap_setCell _ _ _ _ hk,Below.heap_setCell _ _ _ _ hk,Below.heap_setCell _ _ _ _ hk,Below.heap_setCell _ _ _ _ hk,Below.heap_setCell _ _ _ _ hk,Below.heap_setCell _ _ _ _ hk]
theorem below8 {B:Nat} {w0 w:World} (h:Below B w0 w) (b:Nat) (hb:B≤b) (x0 x1 x2 x3 x4 x5 x6 x7:Value):Below B w0 (put8 w b x0 x1 x2 x3 x4 x5 x6 x7):=
 (((((((h.setCell (p:=⟨b,0,none⟩) hb _).setCell (p:=⟨b,1,none⟩) hb _).setCell (p:=⟨b,2,none⟩) hb _).setCell (p:=⟨b,3,none⟩) hb _).setCell (p:=⟨b,4,none⟩) hb _).setCell (p:=⟨b,5,none⟩) hb _).setCell (p:=⟨b,6,none⟩) hb _).setCell (p:=⟨b,7,none⟩) hb _
theorem copied_of (a:SAct) (v:Value) (w:World) (h:w.ownsRow 0 55 6 v a.regs.length (regsL a.regs)) (hl:a.regs.length≤6):Calls Tryz.prog 99 #[.agg (actC a v)] w fun e w'=>∃v',e=.returned (.agg (actC a v'))∧w'.ownsRow w.heap.size 55 6 v' a.regs.length (regsL a.regs)∧Below w.heap.size w w':=by
 have hC:=fun W (hW:Below w.heap.size w W)=>cloneReg_of v a.regs W (row_heap h (fun k hk=>hW.block k (h.lt k hk).2)) (by omega)
 obtain⟨aa,cap,hv,_⟩:=reg_row h;subst hv;obtain⟨n,hn⟩:∃n,n=a.regs.length:=⟨_,rfl⟩
 rw[←hn] at hC⊢;obtain⟨rs,hrs⟩:∃rs,rs=a.regs:=⟨_,rfl⟩
 rw[←hrs] at hC⊢;obtain⟨an,aq,oc,dp,ex,pa,de,regs⟩:=a;dsimp only[actC] at*;have HC:=qq hC;clear h hC hl hn hrs;go_enter Tryz.func99,Tryz.ntmps99;go_wp2_with fail;refine(HC.out _ (by go_grown)).mono ?_;rintro e w1 ⟨v',rfl,ho,hb⟩
 have HB1:=qq (((Blk.fresh w #[an,aq,oc,dp,.float .f64 ex,pa,de,.slice aa n cap] 51 _ rfl).alloc (.cells #[.int .i64 0,.int .i64 0,.int .i64 0,.int .i64 0,.float .f64 0,.int .i64 0,.int .i64 0,.slice none 0 0] 51)).below hb)
 have HV:=qq ((Blk.fresh (w.alloc (.cells #[an,aq,oc,dp,.float .f64 ex,pa,de,.slice aa n cap] 51)) #[.int .i64 0,.int .i64 0,.int .i64 0,.int .i64 0,.float .f64 0,.int .i64 0,.int .i64 0,.slice none 0 0] 51 (w.heap.size+1) (by simp)).below hb);have B1:Below w.heap.size w w1:=below_then (by go_grown) hb;have hlt:=HB1.out.lt;have hlt2:=HV.out.lt
 have hk:∀k,v'.ownBlock=some k→w.heap.size+2≤k:=fun k e=>by have:=(ho.lt _ e).1;simp at this;omega
 have HR:=qq (row_up ho (fun k e=>Nat.le_trans (show w.heap.size≤w.heap.size+2 by omega) (hk k e)));have HK:=qq hk;obtain⟨q,qf⟩:=HB1.out.out;obtain⟨qv,fv⟩:=HV.out.out;obtain⟨a',cap',rfl⟩:=row_slice ho;clear ho hb hk;go_wp2_with fail
 refine bodyPost_ret (v:=.agg #[an,aq,oc,dp,.float .f64 ex,pa,de,.slice a' n cap']) (by simp[results,Tryz.results99,go_sem,q,qf,qv,fv]) rfl ⟨_,rfl,row_heap HR.out (fun k hk=> ?_),below8 (B1.setCell (Nat.le_refl _) _) _ (by omega) _ _ _ _ _ _ _ _⟩;have:=HK.out k hk;exact(heap8 _ _ _ _ _ _ _ _ _ _ k (by omega)).trans (Below.heap_setCell _ _ _ _ (by show k≠w.heap.size;omega))
theorem got_no (w:World):Calls Tryz.prog 100 #[.pointer none] w (Makes (.tuple #[act0V,.bool false]) w):=by
 go_enter Tryz.func100,Tryz.ntmps100;go_wp2_with fail;exact bodyPost_ret (v:=.tuple #[.agg #[.int .i64 0,.int .i64 0,.int .i64 0,.int .i64 0,.float .f64 0,.int .i64 0,.int .i64 0,.slice none 0 0],.bool false]) (by simp[results,Tryz.results100,go_sem]) rfl ⟨rfl,by go_grown⟩
theorem got_yes (b:Nat) (a:SAct) (v:Value) (w:World) (hb:Blk w b (actC a v)) (h:w.ownsRow 0 55 6 v a.regs.length (regsL a.regs)) (hl:a.regs.length≤6):Calls Tryz.prog 100 #[.pointer (some ⟨b,0,none⟩)] w (ActOut a w):=by
 have hC:=fun W (hW:Below w.heap.size w W)=>copied_of a v W (row_heap h (fun k hk=>hW.block k (h.lt k hk).2)) hl
 obtain⟨aa,cap,hv,_⟩:=reg_row h;subst hv;obtain⟨q,qf⟩:=hb.out;have hbl:=hb.lt;obtain⟨n,hn⟩:∃n,n=a.regs.length:=⟨_,rfl⟩
 unfold ActOut;rw[←hn] at hC q⊢;obtain⟨rs,hrs⟩:∃rs,rs=a.regs:=⟨_,rfl⟩
 rw[←hrs] at hC⊢;obtain⟨an,aq,oc,dp,ex,pa,de,regs⟩:=a;dsimp only[actC] at*;have HC:=qq hC;clear h hC hl hn hrs hb;go_enter Tryz.func100,Tryz.ntmps100;go_wp2_with fail;refine(HC.out _ (by go_grown)).mono ?_;rintro e w1 ⟨v',rfl,ho,hb⟩;have B1:Below w.heap.size w w1:=below_then (by go_grown) hb
 have HV:=qq ((Blk.fresh w #[.int .i64 0,.int .i64 0,.int .i64 0,.int .i64 0,.float .f64 0,.int .i64 0,.int .i64 0,.slice none 0 0] 51 _ rfl).below hb);have hlt2:=HV.out.lt;have hk:∀k,v'.ownBlock=some k→w.heap.size+1≤k:=fun k e=>by have:=(ho.lt _ e).1;simp at this;omega
 have HR:=qq (row_up ho (fun k e=>Nat.le_trans (show w.heap.size≤w.heap.size+1 by omega) (hk k e)));have HK:=qq hk;obtain⟨qv,fv⟩:=HV.out.out;obtain⟨a',cap',rfl⟩:=row_slice ho;clear ho hb hk q qf;go_wp2_with fail
 refine bodyPost_ret (v:=.tuple #[.agg #[an,aq,oc,dp,.float .f64 ex,pa,de,.slice a' n cap'],.bool true]) (by simp[results,Tryz.results100,go_sem,qv,fv]) rfl ⟨_,rfl,row_heap HR.out (fun k hk=> ?_),below8 B1 _ (Nat.le_refl _) _ _ _ _ _ _ _ _⟩;have:=HK.out k hk;exact heap8 _ _ _ _ _ _ _ _ _ _ k (by omega)
theorem lGet_none {S:Sto} {n q:Int} (hs:lGet S n q=none):sfind S n q=none:=by
 unfold lGet at hs
 cases hf:sfind S n q with
 | none=>rfl
 | some i=>
  rw[hf] at hs;have hi:=(List.findIdx?_eq_some_iff_getElem.1 hf).1;simp[List.getElem?_eq_getElem hi] at hs
theorem Find_no (L:SLoc) (S:Sto) (n q:Int) (w:World) (h:StoreAt L S w) (hG:StoGood S) (hs:lGet S n q=none):Calls Tryz.prog 25 #[.pointer (some ⟨L.sb,0,none⟩),.agg #[n,q]] w (Makes (.tuple #[act0V,.bool false]) w):=by
 have hF:=fun W (hW:Below w.heap.size w W)=>find_of L S n q W (h.below hW) hG
 rw[lGet_none hs] at hF;dsimp only[aptr,Option.bind] at hF;have HF:=qq hF;have HG:=qq (fun W=>got_no W);clear hF h hG hs;go_enter Tryz.func25,Tryz.ntmps25;go_wp2_with fail
 (with_reducible refine(HF.out _ (by go_grown)).mono ?_)
 rintro e w1 ⟨rfl,hb1⟩;have B1:Below w.heap.size w w1:=below_then (by go_grown) hb1;have HV:=qq ((Blk.fresh (w.alloc (.cells #[n,q] 36)) #[.int .i64 0,.int .i64 0,.int .i64 0,.int .i64 0,.float .f64 0,.int .i64 0,.int .i64 0,.slice none 0 0] 51 (w.heap.size+1) (by simp)).below hb1);go_wp2_with fail
 (with_reducible refine(HG.out _).mono ?_)
 rintro e w2 ⟨rfl,hb2⟩;have B2:Below w.heap.size w w2:=below_then B1 hb2;obtain⟨qv,fv⟩:=(HV.out.below hb2).out;have hlt2:=(HV.out.below hb2).lt;go_wp2_with fail
 exact bodyPost_ret (v:=.tuple #[.agg #[.int .i64 0,.int .i64 0,.int .i64 0,.int .i64 0,.float .f64 0,.int .i64 0,.int .i64 0,.slice none 0 0],.bool false]) (by simp[results,Tryz.results25,go_sem,qv,fv]) rfl ⟨rfl,below8 B2 _ (by omega) _ _ _ _ _ _ _ _⟩
theorem Find_yes (L:SLoc) (S:Sto) (n q:Int) (i:Nat) (a:SAct) (w:World) (h:StoreAt L S w) (hG:StoGood S) (hs:lGet S n q=some (i,a)):Calls Tryz.prog 25 #[.pointer (some ⟨L.sb,0,none⟩),.agg #[n,q]] w (ActOut a w):=by
 have hF:=fun W (hW:Below w.heap.size w W)=>find_of L S n q W (h.below hW) hG
 obtain⟨h1,h2,h3,hz1,hz2⟩:=lGet_some hs;clear hz1 hz2;have hil:=(List.getElem?_eq_some_iff.1 h2).1;obtain⟨x,hx⟩:∃x,L.ab[i]? =some x:=⟨_,List.getElem?_eq_getElem (by rw[h.len];exact hil)⟩
 have hap:aptr L (some i)=.pointer (some ⟨x.1,0,none⟩):=by simp[aptr,hx]
 rw[h1,hap] at hF;have hG2:=fun W (hW:Below w.heap.size w W)=>got_yes x.1 a x.2 W ((h.below hW).act i x a hx h2).1 ((h.below hW).act i x a hx h2).2 (hG.act a h3).len
 obtain⟨xb,xv⟩:=x;have HF:=qq hF;have HG:=qq hG2;unfold ActOut at HG⊢;obtain⟨n1,hn1⟩:∃n1,n1=a.regs.length:=⟨_,rfl⟩
 obtain⟨rs,hrs⟩:∃rs,rs=a.regs:=⟨_,rfl⟩
 rw[←hn1,←hrs] at HG⊢;obtain⟨an,aq,oc,dp,ex,pa,de,regs⟩:=a;dsimp only[actC] at*;clear hF h hG hs h2 h1 h3 hx hap hil hG2 hn1 hrs;go_enter Tryz.func25,Tryz.ntmps25;go_wp2_with fail
 (with_reducible refine(HF.out _ (by go_grown)).mono ?_)
 rintro e w1 ⟨rfl,hb1⟩;have B1:Below w.heap.size w w1:=below_then (by go_grown) hb1;have HV:=qq ((Blk.fresh (w.alloc (.cells #[n,q] 36)) #[.int .i64 0,.int .i64 0,.int .i64 0,.int .i64 0,.float .f64 0,.int .i64 0,.int .i64 0,.slice none 0 0] 51 (w.heap.size+1) (by simp)).below hb1);go_wp2_with fail
 (with_reducible refine(HG.out _ B1).mono ?_)
 rintro e w2 ⟨v',rfl,ho,hb2⟩;have B2:Below w.heap.size w w2:=below_then B1 hb2;have hlt1:=HV.out.lt;obtain⟨qv,fv⟩:=(HV.out.below hb2).out;have hlt2:=(HV.out.below hb2).lt;have hk:∀k,v'.ownBlock=some k→w1.heap.size≤k:=fun k e=>(ho.lt _ e).1
 have HR:=qq (row_base (B:=w.heap.size) ho B1.size);have HK:=qq hk;obtain⟨a',cap',rfl⟩:=row_slice ho;clear ho hk;go_wp2_with fail;refine bodyPost_ret (v:=.tuple #[.agg #[an,aq,oc,dp,.float .f64 ex,pa,de,.slice a' n1 cap'],.bool true]) (by simp[results,Tryz.results25,go_sem,qv,fv]) rfl ⟨_,rfl,row_heap HR.out (fun k hk=> ?_),below8 B2 _ (by omega) _ _ _ _ _ _ _ _⟩;have:=HK.out k hk
 exact heap8 _ _ _ _ _ _ _ _ _ _ k (by omega)
open Go.RowKit Go.Shelf
abbrev msgA (m:SMsg):Array Value:= #[.int .i64 m.k,.int .i64 m.fr,.int .i64 m.to,.int .i64 m.an,.int .i64 m.aq,.int .i64 m.rg,.int .i64 m.pt,.int .i64 m.pr,.int .i64 m.co]
abbrev msgV (m:SMsg):Value:=.agg (msgA m)
def factL (f:SFact):List Value:=[.int .i64 f.k,.int .i64 f.an,.int .i64 f.aq,.int .i64 f.rg,.int .i64 f.nd,.int .i64 f.pt,.int .i64 f.pr,.int .i64 f.oc,.int .i64 f.dp,.int .i64 f.pa,.int .i64 f.st,.int .i64 f.hw,.int .i64 f.de,.float .f64 f.ex]
def factsL (fs:List SFact):List Value:=fs.flatMap factL
def msgL (m:SMsg):List Value:=[.int .i64 m.k,.int .i64 m.fr,.int .i64 m.to,.int .i64 m.an,.int .i64 m.aq,.int .i64 m.rg,.int .i64 m.pt,.int .i64 m.pr,.int .i64 m.co]
def msgsL (ms:List SMsg):List Value:=ms.flatMap msgL
theorem factL_len (f:SFact):(factL f).length=14:=rfl
theorem msgL_len (m:SMsg):(msgL m).length=9:=rfl
theorem factL_one (f:SFact):∀u∈factL f,u.oneCell'=true:=by
 intro u hu;simp only[factL,List.mem_cons,List.not_mem_nil,or_false] at hu;rcases hu with rfl | rfl | rfl | rfl | rfl | rfl | rfl | rfl | rfl | rfl | rfl | rfl | rfl | rfl<;>rfl
theorem msgL_one (m:SMsg):∀u∈msgL m,u.oneCell'=true:=by
 intro u hu;simp only[msgL,List.mem_cons,List.not_mem_nil,or_false] at hu;rcases hu with rfl | rfl | rfl | rfl | rfl | rfl | rfl | rfl | rfl<;>rfl
theorem infoFact:(Tryz.prog.info? 39).map (fun i=>(i.zero,i.size,i.bytes))=some (some (.agg #[.int .i64 0,.int .i64 0,.int .i64 0,.int .i64 0,.int .i64 0,.int .i64 0,.int .i64 0,.int .i64 0,.int .i64 0,.int .i64 0,.int .i64 0,.int .i64 0,.int .i64 0,.float .f64 0]),14,112):=by kernel_rfl
theorem infoMsg:(Tryz.prog.info? 81).map (fun i=>(i.zero,i.size,i.bytes))=some (some (.agg #[.int .i64 0,.int .i64 0,.int .i64 0,.int .i64 0,.int .i64 0,.int .i64 0,.int .i64 0,.int .i64 0,.int .i64 0]),9,72):=by kernel_rfl
structure QLoc where
 rb:Nat
 fv:Value
 mv:Value
def QLoc.foot (q:QLoc):List Nat:=q.rb::(q.fv.ownBlock.toList ++q.mv.ownBlock.toList)
theorem QLoc.mem {q:QLoc} {k:Nat}:k∈q.foot↔k=q.rb∨q.fv.ownBlock=some k∨q.mv.ownBlock=some k:=by
 unfold QLoc.foot;simp[List.mem_append]
structure ResAt (q:QLoc) (r:SRes) (w:World):Prop where
 blk:Blk w q.rb #[q.fv,q.mv,r.wk]
 fs:w.ownsRow 0 39 14 q.fv r.fs.length (factsL r.fs)
 ms:w.ownsRow 0 81 9 q.mv r.ms.length (msgsL r.ms)
 n1:q.fv.ownBlock≠some q.rb
 n2:q.mv.ownBlock≠some q.rb
 n3:∀k,q.fv.ownBlock=some k→q.mv.ownBlock≠some k
theorem ResAt.lt {q:QLoc} {r:SRes} {w:World} (h:ResAt q r w):∀k∈q.foot,k<w.heap.size:=by
 intro k hk;rcases QLoc.mem.1 hk with rfl | hk | hk
 · exact h.blk.lt
 · exact(h.fs.lt k hk).2
 · exact(h.ms.lt k hk).2
theorem ResAt.below {q:QLoc} {r:SRes} {w w':World} (h:ResAt q r w) (hb:Below w.heap.size w w'):ResAt q r w':=
 ⟨h.blk.below hb,row_heap h.fs (fun k hk=>hb.block k (h.fs.lt k hk).2),row_heap h.ms (fun k hk=>hb.block k (h.ms.lt k hk).2),h.n1,h.n2,h.n3⟩
def QGoes (q:QLoc) (r:SRes) (w w':World):Prop:=∃q',q'.rb=q.rb∧ResAt q' r w'∧Goes q.foot q'.foot w w'
theorem QGoes.after {q:QLoc} {r:SRes} {w w1 w':World} (hb:Below w.heap.size w w1) (h:QGoes q r w1 w'):QGoes q r w w':=by
 obtain⟨q',h1,h2,h3⟩:=h;exact⟨q',h1,h2,.after hb h3⟩
theorem QGoes.then_below {q:QLoc} {r:SRes} {w w1 w':World} (h:QGoes q r w w1) (hb:Below w1.heap.size w1 w'):QGoes q r w w':=by
 obtain⟨q',h1,h2,h3⟩:=h;exact⟨q',h1,h2.below hb,h3.then_below hb⟩
theorem q_fs {q : QLoc} {r : SRes} {w W w2 : World} {v2 : Value} {f : SFact} (h : ResAt q r w) (hb : Below w.heap.size w W) (hg : W.grownBy w2 q.fv.ownBlock) (hrow : w2.ownsRow 0 39 14 v2 (r.fs.length + 1) (factsL r.fs ++ factL f)) (hat : v2.ownBlock = q.fv.ownBlock ∨ v2.ownBlock = some W.heap.size) :
    QGoes q {r with fs:=r.fs ++ [f]} w (w2.setCell ⟨q.rb,0,none⟩ v2):=by
 have ho:∀k,q.mv.ownBlock=some k→k<w.heap.size:=fun k hk=>(h.ms.lt k hk).2
 have hW:=h.blk.below hb;have hv2:v2.ownBlock≠some q.rb:=by
  rcases hat with e | e
  · rw[e];exact h.n1
  · rw[e];intro e';injection e' with e';have:=hW.lt;omega
 have hblk:Blk w2 q.rb #[q.fv,q.mv,r.wk]:=hW.same hg.size (hg.block _ hW.lt (fun e=>h.n1 e.symm));refine ⟨⟨q.rb, v2, q.mv⟩, rfl, ⟨hblk.set' 0 (by simp) v2, (by
     rw[List.length_append];refine row_heap (xs:=factsL (r.fs ++ [f])) ?_ (fun k hk=>Below.heap_setCell _ _ _ _ (fun e=>hv2 (by rw[hk,e])));unfold factsL at hrow⊢;rw[List.flatMap_append]
     simpa using hrow),(row_heap h.ms (fun k hk=>(Below.heap_setCell _ _ _ _ (fun e=>h.n2 (by rw[hk,e]))).trans ((hg.block k (Nat.lt_of_lt_of_le (ho k hk) hb.size) (fun e=>h.n3 k e.symm hk)).trans (hb.block k (ho k hk))))),hv2,h.n2,fun k hk=>by
     rcases hat with e | e
     · exact h.n3 k (by rw[←e];exact hk)
     · have hk':v2.ownBlock=some k:=hk;rw[e] at hk';injection hk' with hk';subst hk'
       intro e';have:=ho _ e';have:=hb.size;omega⟩,((Goes.of_below hb).trans ((Goes.grown hg (fun k hk=>QLoc.mem.2 (.inr (.inl hk)))).trans (Goes.setCell q.rb 0 v2 (QLoc.mem.2 (.inl rfl))))).change (fun k hk=> ?_)⟩
 rcases QLoc.mem.1 hk with e | e | e
 · exact .inl (QLoc.mem.2 (.inl e))
 · rcases hat with e2 | e2;exact .inl (QLoc.mem.2 (.inr (.inl (by rw[←e2];exact e))));have e3:v2.ownBlock=some k:=e;rw[e2] at e3;injection e3 with e3;exact .inr (by have:=hb.size;omega)
 · exact .inl (QLoc.mem.2 (.inr (.inr e)))
theorem q_ms {q : QLoc} {r : SRes} {w W w2 : World} {v2 : Value} {f : SMsg} (h : ResAt q r w) (hb : Below w.heap.size w W) (hg : W.grownBy w2 q.mv.ownBlock) (hrow : w2.ownsRow 0 81 9 v2 (r.ms.length + 1) (msgsL r.ms ++ msgL f)) (hat : v2.ownBlock = q.mv.ownBlock ∨ v2.ownBlock = some W.heap.size) :
    QGoes q {r with ms:=r.ms ++ [f]} w (w2.setCell ⟨q.rb,1,none⟩ v2):=by
 have ho:∀k,q.fv.ownBlock=some k→k<w.heap.size:=fun k hk=>(h.fs.lt k hk).2
 have hW:=h.blk.below hb;have hv2:v2.ownBlock≠some q.rb:=by
  rcases hat with e | e
  · rw[e];exact h.n2
  · rw[e];intro e';injection e' with e';have:=hW.lt;omega
 have hblk:Blk w2 q.rb #[q.fv,q.mv,r.wk]:=hW.same hg.size (hg.block _ hW.lt (fun e=>h.n2 e.symm));refine ⟨⟨q.rb, q.fv, v2⟩, rfl, ⟨hblk.set' 1 (by simp) v2, (row_heap h.fs (fun k hk => (Below.heap_setCell _ _ _ _ (fun e => h.n1 (by rw [hk, e]))).trans ((hg.block k (Nat.lt_of_lt_of_le (ho k hk) hb.size) (fun e => h.n3 k hk e.symm)).trans (hb.block k (ho k hk))))), (by
     rw[List.length_append];refine row_heap (xs:=msgsL (r.ms ++ [f])) ?_ (fun k hk=>Below.heap_setCell _ _ _ _ (fun e=>hv2 (by rw[hk,e])));unfold msgsL at hrow⊢;rw[List.flatMap_append];simpa using hrow),h.n1,hv2,fun k hk e'=>by
     have e2:v2.ownBlock=some k:=e';rcases hat with e | e
     · exact h.n3 k hk (by rw[←e];exact e2)
     · rw[e] at e2;injection e2 with e2;subst e2
       have:=ho _ hk;have:=hb.size;omega⟩,((Goes.of_below hb).trans ((Goes.grown hg (fun k hk=>QLoc.mem.2 (.inr (.inr hk)))).trans (Goes.setCell q.rb 1 v2 (QLoc.mem.2 (.inl rfl))))).change (fun k hk=> ?_)⟩
 rcases QLoc.mem.1 hk with e | e | e
 · exact .inl (QLoc.mem.2 (.inl e))
 · exact .inl (QLoc.mem.2 (.inr (.inl e)))
 · rcases hat with e2 | e2;exact .inl (QLoc.mem.2 (.inr (.inr (by rw[←e2];exact e))));have e3:v2.ownBlock=some k:=e;rw[e2] at e3;injection e3 with e3;exact .inr (by have:=hb.size;omega)
def FactAt (w:World) (b o:Nat) (f:SFact):Prop:=w.cell? ⟨b,o,none⟩=some (.int .i64 f.k)∧w.cell? ⟨b,o+1,none⟩=some (.int .i64 f.an)∧w.cell? ⟨b,o+2,none⟩=some (.int .i64 f.aq)∧w.cell? ⟨b,o+3,none⟩=some (.int .i64 f.rg)∧w.cell? ⟨b,o+4,none⟩=some (.int .i64 f.nd)∧w.cell? ⟨b,o+5,none⟩=some (.int .i64 f.pt)∧w.cell? ⟨b,o+6,none⟩=some (.int .i64 f.pr)∧w.cell? ⟨b,o+7,none⟩=some (.int .i64 f.oc)∧w.cell? ⟨b,o+8,none⟩=some (.int .i64 f.dp)∧w.cell? ⟨b,o+9,none⟩=some (.int .i64 f.pa)∧w.cell? ⟨b,o+10,none⟩=some (.int .i64 f.st)∧w.cell? ⟨b,o+11,none⟩=some (.int .i64 f.hw)∧w.cell? ⟨b,o+12,none⟩=some (.int .i64 f.de)∧w.cell? ⟨b,o+13,none⟩=some (.float .f64 f.ex)
theorem FactAt.below {w w':World} {b o:Nat} {f:SFact} (h:FactAt w b o f) (hb:Below w.heap.size w w') (hl:b<w.heap.size):FactAt w' b o f:=
 ⟨(hb.cell (p:=⟨b,o,none⟩) hl).trans h.1,(hb.cell (p:=⟨b,o+1,none⟩) hl).trans h.2.1,(hb.cell (p:=⟨b,o+2,none⟩) hl).trans h.2.2.1,(hb.cell (p:=⟨b,o+3,none⟩) hl).trans h.2.2.2.1,(hb.cell (p:=⟨b,o+4,none⟩) hl).trans h.2.2.2.2.1,(hb.cell (p:=⟨b,o+5,none⟩) hl).trans h.2.2.2.2.2.1,(hb.cell (p:=⟨b,o+6,none⟩) hl).trans h.2.2.2.2.2.2.1,(hb.cell (p:=⟨b,o+7,none⟩) hl).trans h.2.2.2.2.2.2.2.1,(hb.cell (p:=⟨b,o+8,none⟩) hl).trans h.2.2.2.2.2.2.2.2.1,(hb.cell (p:=⟨b,o+9,none⟩) hl).trans h.2.2.2.2.2.2.2.2.2.1,(hb.cell (p:=⟨b,o+10,none⟩) hl).trans h.2.2.2.2.2.2.2.2.2.2.1,(hb.cell (p:=⟨b,o+11,none⟩) hl).trans h.2.2.2.2.2.2.2.2.2.2.2.1,(hb.cell (p:=⟨b,o+12,none⟩) hl).trans h.2.2.2.2.2.2.2.2.2.2.2.2.1,(hb.cell (p:=⟨b,o+13,none⟩) hl).trans h.2.2.2.2.2.2.2.2.2.2.2.2.2⟩
theorem FactAt.heap {w w':World} {b o:Nat} {f:SFact} (h:FactAt w b o f) (he:w'.heap[b]? =w.heap[b]?):FactAt w' b o f:=
 ⟨(World.cell?_of_block (w:=w) (a:=⟨b,o,none⟩) he).trans h.1,(World.cell?_of_block (w:=w) (a:=⟨b,o+1,none⟩) he).trans h.2.1,(World.cell?_of_block (w:=w) (a:=⟨b,o+2,none⟩) he).trans h.2.2.1,(World.cell?_of_block (w:=w) (a:=⟨b,o+3,none⟩) he).trans h.2.2.2.1,(World.cell?_of_block (w:=w) (a:=⟨b,o+4,none⟩) he).trans h.2.2.2.2.1,(World.cell?_of_block (w:=w) (a:=⟨b,o+5,none⟩) he).trans h.2.2.2.2.2.1,(World.cell?_of_block (w:=w) (a:=⟨b,o+6,none⟩) he).trans h.2.2.2.2.2.2.1,(World.cell?_of_block (w:=w) (a:=⟨b,o+7,none⟩) he).trans h.2.2.2.2.2.2.2.1,(World.cell?_of_block (w:=w) (a:=⟨b,o+8,none⟩) he).trans h.2.2.2.2.2.2.2.2.1,(World.cell?_of_block (w:=w) (a:=⟨b,o+9,none⟩) he).trans h.2.2.2.2.2.2.2.2.2.1,(World.cell?_of_block (w:=w) (a:=⟨b,o+10,none⟩) he).trans h.2.2.2.2.2.2.2.2.2.2.1,(World.cell?_of_block (w:=w) (a:=⟨b,o+11,none⟩) he).trans h.2.2.2.2.2.2.2.2.2.2.2.1,(World.cell?_of_block (w:=w) (a:=⟨b,o+12,none⟩) he).trans h.2.2.2.2.2.2.2.2.2.2.2.2.1,(World.cell?_of_block (w:=w) (a:=⟨b,o+13,none⟩) he).trans h.2.2.2.2.2.2.2.2.2.2.2.2.2⟩
def ReadFacts (w:World) (v:Value) (fs:List SFact):Prop:=∃a cap,v=.slice a fs.length cap∧(fs≠[]→∃b off,a=some ⟨b,off,none⟩∧b<w.heap.size∧∀(j:Nat) (h:j<fs.length),FactAt w b (off+j*14) fs[j])
def sliceBlock:Value→Option Nat
 | .slice (some a) _ _=>some a.block
 | _=>none
theorem ReadFacts.heap {w w':World} {v:Value} {fs:List SFact} (h:ReadFacts w v fs) (hz:w.heap.size≤w'.heap.size) (he:∀k,sliceBlock v=some k→w'.heap[k]? =w.heap[k]?):ReadFacts w' v fs:=by
 obtain⟨a,cap,rfl,h⟩:=h;refine⟨a,cap,rfl,fun hn=> ?_⟩;obtain⟨b,off,rfl,hb,hf⟩:=h hn;exact⟨b,off,rfl,by omega,fun j hj=>(hf j hj).heap (he b rfl)⟩
theorem read_row {w:World} {B:Nat} {v:Value} {fs:List SFact} (h:w.ownsRow B 39 14 v fs.length (factsL fs)):ReadFacts w v fs∧∀k,sliceBlock v=some k→v.ownBlock=some k:=by
 obtain⟨a,cap,hv⟩:=row_slice h;subst hv;by_cases hn:fs=[]
 · subst hn;rcases h.2 with⟨hv,_⟩ | ⟨g,cap',cur,hv,_⟩
   · cases hv
     exact⟨⟨none,0,rfl,fun h=>absurd rfl h⟩,by simp[sliceBlock]⟩
   · simp only[Value.slice.injEq] at hv;obtain⟨rfl,_,rfl⟩:=hv;exact⟨⟨_,_,rfl,fun h=>absurd rfl h⟩,fun k hk=>by simpa[sliceBlock,Value.ownBlock] using hk⟩
 · obtain⟨g,cap',hv,_,_,hg,hc,_⟩:=row_form h (List.length_pos_iff.2 hn);simp only[Value.slice.injEq,true_and] at hv;obtain⟨rfl,rfl⟩:=hv;refine⟨⟨_,_,rfl,fun _=>⟨g,0,rfl,hg,fun j hj=> ?_⟩⟩,fun k hk=>by simpa[sliceBlock,Value.ownBlock] using hk⟩;have hat:=fun i hi=>flat_at factL 14 factL_len fs j i hj hi
   rw[Nat.zero_add]
   exact⟨hc _ _ (hat 0 (by decide)),hc _ _ (hat 1 (by decide)),hc _ _ (hat 2 (by decide)),hc _ _ (hat 3 (by decide)),hc _ _ (hat 4 (by decide)),hc _ _ (hat 5 (by decide)),hc _ _ (hat 6 (by decide)),hc _ _ (hat 7 (by decide)),hc _ _ (hat 8 (by decide)),hc _ _ (hat 9 (by decide)),hc _ _ (hat 10 (by decide)),hc _ _ (hat 11 (by decide)),hc _ _ (hat 12 (by decide)),hc _ _ (hat 13 (by decide))⟩
theorem read_nil {w:World} {cap:Nat} {a:Option Addr}:ReadFacts w (.slice a 0 cap) []:=⟨a,cap,rfl,fun h=>absurd rfl h⟩
theorem envG_of {ea:Int→Addr} {w w1:World} {L:SLoc} (hE:EnvS ea w) (hb:Below w.heap.size w w1) (hL:∀k∈L.foot,w.heap.size≤k):EnvG L ea w1:=
 fun _ _ hg=>hE.below (hb.trans (hg.below hL hb.size))
def splay (node:Int) (fs:List SFact):Sto:=fs.foldl (fun S f=>(sapply S f).1) ⟨node,0,[],[]⟩
theorem splay_snoc (node:Int) (fs:List SFact) (f:SFact):splay node (fs ++ [f])=(sapply (splay node fs) f).1:=by
 unfold splay;rw[List.foldl_append];rfl
theorem splay_good {node:Int} (h:0≤node∧node≤3) (fs:List SFact):StoGood (splay node fs):=by
 unfold splay;have h0:StoGood ⟨node,0,[],[]⟩:=⟨h,by simp,by simp,by simp,by simp,by simp,by simp,by simp⟩
 revert h0;generalize(⟨node,0,[],[]⟩:Sto)=S
 induction fs generalizing S with
 | nil=>intro h0;exact h0
 | cons f t ih=>intro h0;exact ih _ (sapply_good h0)
structure Built (L:SLoc) (R:RLoc) (S:Sto) (w w':World):Prop where
 st:StoreAt L S w'
 rs:RStoreAt R S w'
 ap:∀k∈L.foot,k∉R.foot
 nl:∀k∈L.foot,w.heap.size≤k
 nr:∀k∈R.foot,w.heap.size≤k
 be:Below w.heap.size w w'
theorem Built.below {L:SLoc} {R:RLoc} {S:Sto} {w w1 w2:World} (h:Built L R S w w1) (hb:Below w1.heap.size w1 w2):Built L R S w w2:=⟨h.st.below hb,h.rs.below hb,h.ap,h.nl,h.nr,below_then h.be hb⟩
structure Half (L:SLoc) (R:RLoc) (S T:Sto) (w w':World):Prop where
 st:StoreAt L T w'
 rs:RStoreAt R S w'
 ap:∀k∈L.foot,k∉R.foot
 nl:∀k∈L.foot,w.heap.size≤k
 nr:∀k∈R.foot,w.heap.size≤k
 be:Below w.heap.size w w'
theorem Built.first {L:SLoc} {R:RLoc} {S T:Sto} {w w1 w2:World} (h:Built L R S w w1) (hs:SGoes L T w1 w2):∃L',L'.sb=L.sb∧Half L' R S T w w2∧w1.heap.size≤w2.heap.size∧(∀k,k<w1.heap.size→k∉L.foot→w2.heap[k]? =w1.heap[k]?):=by
 obtain⟨L',h1,h2,h3⟩:=hs;refine⟨L',h1,⟨h2,h.rs.keep h3.size (h3.keep h.ap h.rs.lt),h3.apart h.ap h.rs.lt,fun k hk=> ?_,h.nr,h.be.trans (h3.below h.nl h.be.size)⟩,h3.size,h3.block⟩;rcases h3.new k hk with e | e
 · exact h.nl k e
 · exact Nat.le_trans h.be.size e
theorem Half.below {L:SLoc} {R:RLoc} {S T:Sto} {w w1 w2:World} (h:Half L R S T w w1) (hb:Below w1.heap.size w1 w2):Half L R S T w w2:=⟨h.st.below hb,h.rs.below hb,h.ap,h.nl,h.nr,below_then h.be hb⟩
theorem Half.second {L:SLoc} {R:RLoc} {S T:Sto} {w w1 w2:World} (h:Half L R S T w w1) (hs:RGoes R T w1 w2):∃R',R'.sb=R.sb∧Built L R' T w w2:=by
 obtain⟨R',h1,h2,h3⟩:=hs;have hap:∀k∈R.foot,k∉L.foot:=fun k hk hl=>h.ap k hl hk
 refine⟨R',h1,h.st.keep h3.size (h3.keep hap h.st.lt),h2,fun k hk hr=>h3.apart hap h.st.lt k hr hk,h.nl,fun k hk=> ?_,h.be.trans (h3.below h.nr h.be.size)⟩;rcases h3.new k hk with e | e
 · exact h.nr k e
 · exact Nat.le_trans h.be.size e
theorem built_start {w W : World} {node : Int} {x : Nat} (hb : Below w.heap.size w W) (hx : Blk W x #[node, .int .i64 0, .slice none 0 0, .slice none 0 0]) (hlx : w.heap.size ≤ x) (T : TypeId) :
    Built ⟨x,.slice none 0 0,.slice none 0 0,[]⟩ ⟨W.heap.size,.slice none 0 0,.slice none 0 0,[]⟩ ⟨node,0,[],[]⟩ w (W.alloc (.cells #[node,.int .i64 0,.slice none 0 0,.slice none 0 0] T)):=by
 have hxl:=hx.lt;have hbs:=hb.size;refine⟨⟨hx.alloc _,World.ownsRow_nil _ _ _ _,World.ownsRow_nil _ _ _ _,fun i y a h=>by simp at h,by simp[SLoc.foot,Value.ownBlock,blocks]⟩,⟨Blk.fresh W _ T _ rfl,World.ownsRow_nil _ _ _ _,World.ownsRow_nil _ _ _ _,rfl,fun i y a h=>by simp at h,by simp[RLoc.foot,Value.ownBlock,rblocks]⟩,fun k hk hr=> ?_,fun k hk=> ?_,fun k hk=> ?_,hb.alloc hbs _⟩
 · simp[SLoc.foot,Value.ownBlock,blocks] at hk;simp[RLoc.foot,Value.ownBlock,rblocks] at hr;omega
 · simp[SLoc.foot,Value.ownBlock,blocks] at hk;omega
 · simp[RLoc.foot,Value.ownBlock,rblocks] at hk;omega
theorem snew_yes (node:Int) (w:World) (h:0≤node∧node≤3):Calls Tryz.prog 19 #[.int .i64 node] w (fun e w'=>e=.returned (.tuple #[.pointer (some ⟨w.heap.size,0,none⟩),.nilIface])∧w'=w.alloc (.cells #[node,.int .i64 0,.slice none 0 0,.slice none 0 0] 154)):=by
 obtain⟨h0,h3⟩:=h;have d1:decide (node<0)=false:=decide_eq_false (by omega);have d2:decide ((4:Int)≤node)=false:=decide_eq_false (by omega);go_enter Tryz.func19,Tryz.ntmps19;go_wp2_with fail;go_ret2;exact⟨rfl,rfl⟩
theorem snew_no (node:Int) (ea:Int→Addr) (w:World) (hE:EnvS ea w) (h:¬(0≤node∧node≤3)):Calls Tryz.prog 19 #[.int .i64 node] w (Makes (.tuple #[.pointer none,errV (ea 1)]) w):=by
 have e1:w.cell? ⟨0,0,none⟩=some (errV (ea 1)):=hE.e.e1;by_cases h0:node<0
 · have d1:decide (node<0)=true:=decide_eq_true h0;clear hE h;go_enter Tryz.func19,Tryz.ntmps19;go_wp2_with fail
   (try go_region)
   all_goals (try go_wp2_with fail)
   all_goals go_ret2
   all_goals exact⟨rfl,by go_grown⟩
 · have d1:decide (node<0)=false:=decide_eq_false h0;have d2:decide ((4:Int)≤node)=true:=decide_eq_true (by omega);clear hE h;go_enter Tryz.func19,Tryz.ntmps19;go_wp2_with fail
   (try go_region)
   all_goals (try go_wp2_with fail)
   all_goals go_ret2
   all_goals exact⟨rfl,by go_grown⟩
structure FrAt (bs:List (Nat×Array Value)) (Q:QLoc) (r:SRes) (w w':World):Prop where
 bl:∀x∈bs,Blk w' x.1 x.2
 ap:∀x∈bs,x.1∉Q.foot
 nd:(bs.map Prod.fst).Nodup
 q:ResAt Q r w'
 nf:∀k∈Q.foot,w.heap.size≤k
 be:Below w.heap.size w w'
theorem FrAt.below {bs:List (Nat×Array Value)} {Q:QLoc} {r:SRes} {w w1 w2:World} (h:FrAt bs Q r w w1) (hb:Below w1.heap.size w1 w2):FrAt bs Q r w w2:=
 ⟨fun x hx=>(h.bl x hx).below hb,h.ap,h.nd,h.q.below hb,h.nf,below_then h.be hb⟩
theorem FrAt.goes {bs:List (Nat×Array Value)} {Q:QLoc} {r r':SRes} {w w1 w2:World} (h:FrAt bs Q r w w1) (hs:QGoes Q r' w1 w2):∃fv mv,FrAt bs ⟨Q.rb,fv,mv⟩ r' w w2:=by
 obtain⟨⟨rb,fv,mv⟩,h1,h2,h3⟩:=hs;dsimp only at h1;subst h1;refine⟨fv,mv,fun x hx=>(h.bl x hx).same h3.size (h3.block _ (h.bl x hx).lt (h.ap x hx)),fun x hx hk=> ?_,h.nd,h2,fun k hk=> ?_,h.be.trans (h3.below h.nf h.be.size)⟩
 · rcases h3.new _ hk with e | e
   · exact h.ap x hx e
   · have:=(h.bl x hx).lt;omega
 · rcases h3.new k hk with e | e
   · exact h.nf k e
   · exact Nat.le_trans h.be.size e
theorem FrAt.set {bs:List (Nat×Array Value)} {b:Nat} {C:Array Value} {Q:QLoc} {r:SRes} {w w1:World} (h:FrAt ((b,C)::bs) Q r w w1) (hb:w.heap.size≤b) (i:Nat) (hi:i<C.size) (v:Value):FrAt ((b,C.set i v hi)::bs) Q r w (w1.setCell ⟨b,i,none⟩ v):=by
 have hn:=h.nd;rw[List.map_cons,List.nodup_cons] at hn;have hap:=h.ap (b,C) (List.mem_cons_self);have hset:∀k,k≠b→(w1.setCell ⟨b,i,none⟩ v).heap[k]? =w1.heap[k]? :=fun k hk=>Below.heap_setCell _ _ _ _ hk
 refine⟨fun x hx=> ?_,fun x hx hk=> ?_,by simpa using hn,⟨h.q.blk.same (by simp) (hset _ (fun e=>hap (QLoc.mem.2 (.inl e.symm)))),row_heap h.q.fs (fun k hk=>hset _ (fun e=>hap (QLoc.mem.2 (.inr (.inl (by rw[hk,e])))))),row_heap h.q.ms (fun k hk=>hset _ (fun e=>hap (QLoc.mem.2 (.inr (.inr (by rw[hk,e])))))),h.q.n1,h.q.n2,h.q.n3⟩,h.nf,h.be.setCell hb _⟩
 · rcases List.mem_cons.1 hx with rfl | hx
   · exact(h.bl (b,C) List.mem_cons_self).set' i hi v
   · exact(h.bl x (List.mem_cons_of_mem _ hx)).same (by simp) (hset _ (fun e=>hn.1 (List.mem_map.2 ⟨x,hx,e⟩)))
 · rcases List.mem_cons.1 hx with rfl | hx
   · exact hap hk
   · exact h.ap x (List.mem_cons_of_mem _ hx) hk
theorem FrAt.wk {bs:List (Nat×Array Value)} {Q:QLoc} {r:SRes} {w w1:World} (h:FrAt bs Q r w w1) (x:Int):FrAt bs Q {r with wk:=x} w (w1.setCell ⟨Q.rb,2,none⟩ (.int .i64 x)):=by
 have hset:∀k,k≠Q.rb→(w1.setCell ⟨Q.rb,2,none⟩ (.int .i64 x)).heap[k]? =w1.heap[k]? :=fun k hk=>Below.heap_setCell _ _ _ _ hk
 refine⟨fun y hy=>(h.bl y hy).same (by simp) (hset _ (fun e=>h.ap y hy (QLoc.mem.2 (.inl e)))),h.ap,h.nd,⟨h.q.blk.set' 2 (by simp) _,row_heap h.q.fs (fun k hk=>hset _ (fun e=>h.q.n1 (by rw[hk,e]))),row_heap h.q.ms (fun k hk=>hset _ (fun e=>h.q.n2 (by rw[hk,e]))),h.q.n1,h.q.n2,h.q.n3⟩,h.nf,h.be.setCell (h.nf _ (QLoc.mem.2 (.inl rfl))) _⟩
theorem FrAt.out {bs:List (Nat×Array Value)} {Q:QLoc} {r:SRes} {w w1 w2:World} (h:FrAt bs Q r w w1) (he:∀k∈Q.foot,w2.heap[k]? =w1.heap[k]?) (hb:Below w.heap.size w w2):w2.ownsRow w.heap.size 39 14 Q.fv r.fs.length (factsL r.fs)∧w2.ownsRow w.heap.size 81 9 Q.mv r.ms.length (msgsL r.ms)∧Below w.heap.size w w2:=
 ⟨row_up (row_heap h.q.fs (fun k hk=>he k (QLoc.mem.2 (.inr (.inl hk))))) (fun k hk=>h.nf k (QLoc.mem.2 (.inr (.inl hk)))),row_up (row_heap h.q.ms (fun k hk=>he k (QLoc.mem.2 (.inr (.inr hk))))) (fun k hk=>h.nf k (QLoc.mem.2 (.inr (.inr hk)))),hb⟩
theorem FrAt.ends {bs : List (Nat × Array Value)} {Q : QLoc} {r : SRes} {w w1 : World} {b : Nat} {C : Array Value} (h : FrAt bs Q r w w1) (hm : (b, C) ∈ bs) (hb : w.heap.size ≤ b) (x y z : Value) :
    (((w1.setCell ⟨b,0,none⟩ x).setCell ⟨b,1,none⟩ y).setCell ⟨b,2,none⟩ z).ownsRow w.heap.size 39 14 Q.fv r.fs.length (factsL r.fs)∧(((w1.setCell ⟨b,0,none⟩ x).setCell ⟨b,1,none⟩ y).setCell ⟨b,2,none⟩ z).ownsRow w.heap.size 81 9 Q.mv r.ms.length (msgsL r.ms)∧Below w.heap.size w (((w1.setCell ⟨b,0,none⟩ x).setCell ⟨b,1,none⟩ y).setCell ⟨b,2,none⟩ z):=
 h.out (fun k hk=>by
   have hk':k≠b:=fun e=>h.ap _ hm (e▸hk)
   rw[Below.heap_setCell _ _ _ _ hk',Below.heap_setCell _ _ _ _ hk',Below.heap_setCell _ _ _ _ hk']) (((h.be.setCell (p:=⟨b,0,none⟩) hb _).setCell (p:=⟨b,1,none⟩) hb _).setCell (p:=⟨b,2,none⟩) hb _)
theorem FrAt.lt {bs:List (Nat×Array Value)} {Q:QLoc} {r:SRes} {w w1:World} (h:FrAt bs Q r w w1):Q.rb<w1.heap.size:=h.q.blk.lt
theorem gdo_of (x:MSeat) (k:Int) (w:World):Calls Tryz.prog 145 #[seatV x,.int .i64 k] w (Makes (.tuple #[effV (gDo x k).1,.int .i64 (gDo x k).2]) w):=by
 obtain⟨r,hr⟩:∃r,r=mRight x:=⟨_,rfl⟩
 have hR:∀W,Calls Tryz.prog 201 #[seatV x] W (Makes (.bool r) W):=fun W=>by rw[hr];exact gright_of x W
 obtain⟨s,n,hs⟩:∃s n,rStep x.p x.d k x.s=(s,n):=⟨_,_,rfl⟩
 have hL:∀W,Calls Tryz.prog 230 #[.int .i64 x.p,.int .i64 x.d,.int .i64 k,.int .i64 x.s] W (Makes (.tuple #[.int .i64 s,.int .i64 n]) W):=fun W=>by
  have:=rstep_any x.p x.d k x.s W;rw[hs] at this;exact this.mono (fun e w' h=>⟨h.1,by rw[←h.2];exact Below.refl _ _⟩)
 have he:gDo x k=if r=false then(eff0,4) else if n≠0 then(eff0,n) else(gMoved x s (gHow k k) k,0):=by
  unfold gDo;rw[←hr,hs]
 rw[he];clear he hr hs;obtain⟨p,d,s0,h0⟩:=x;dsimp only[seatV] at*;have HR:=qq hR;have HL:=qq hL;clear hR hL
 cases r with
 | false=>
  rw[if_pos rfl];dsimp only[effV,eff0,seat0];go_enter Tryz.func145,Tryz.ntmps145;go_wp2_with (first
    | (go_at_call 201;refine(HR.out _).mono ?_;rintro e w1 ⟨rfl,hb1⟩;have HA1:=qq (((Blk.fresh w _ _ _ rfl).alloc _).below hb1);have HO1:=qq ((Blk.fresh _ _ _ (w.heap.size+1) (by simp only[World.size_alloc])).below hb1);obtain⟨q1,f1⟩:=HA1.out.out;obtain⟨q2,f2⟩:=HO1.out.out;have hz1:=hb1.size;simp only[World.size_alloc] at hz1;have B1:Below w.heap.size w w1:=below_then (by go_grown) hb1)
    | fail)
  exact bodyPost_ret (v:=.tuple #[.agg #[.int .i64 0,.int .i64 0,.int .i64 0,.int .i64 0,.int .i64 0,.int .i64 0,.int .i64 0,.bool false],.int .i64 4]) (by simp[results,Tryz.results145,go_sem,q2,f2]) rfl ⟨rfl,by go_grown⟩
 | true=>
  rw[if_neg (by simp)];by_cases hn:n=0
  case neg=>
   rw[if_pos hn];dsimp only[effV,eff0,seat0];have hn':(n !=0)=true:=by simpa using hn
   clear hn;go_enter Tryz.func145,Tryz.ntmps145;go_wp2_with (first
   | (go_at_call 201;refine(HR.out _).mono ?_;rintro e w1 ⟨rfl,hb1⟩;have HA1:=qq (((Blk.fresh w _ _ _ rfl).alloc _).below hb1);have HO1:=qq ((Blk.fresh _ _ _ (w.heap.size+1) (by simp only[World.size_alloc])).below hb1);obtain⟨q1,f1⟩:=HA1.out.out;obtain⟨q2,f2⟩:=HO1.out.out;have hz1:=hb1.size;simp only[World.size_alloc] at hz1;have B1:Below w.heap.size w w1:=below_then (by go_grown) hb1)
   | (go_at_call 230;refine(HL.out _).mono ?_;rintro e w2 ⟨rfl,hb2⟩;have HA2:=qq (HA1.out.below hb2);have HO2:=qq (HO1.out.below hb2);clear q1 f1 q2 f2;have q1:=HA2.out.cell;have q2:=HO2.out.cell;have f2:=HO2.out.free;have hz2:=hb2.size;have B2:Below w.heap.size w w2:=below_then B1 hb2)
   | (go_at_call 231;refine(HM.out _).mono ?_;rintro e w3 ⟨rfl,hb3⟩;have HO3:=qq (HO2.out.below hb3);clear q1 q2 f2;obtain⟨q2,f2⟩:=HO3.out.out;have hz3:=hb3.size;have B3:Below w.heap.size w w3:=below_then B2 hb3))
   exact bodyPost_ret (v:=.tuple #[.agg #[.int .i64 0,.int .i64 0,.int .i64 0,.int .i64 0,.int .i64 0,.int .i64 0,.int .i64 0,.bool false],.int .i64 n]) (by simp[results,Tryz.results145,go_sem,q2,f2]) rfl ⟨rfl,by go_grown⟩
  subst hn;rw[if_neg (by simp)];by_cases k2:k=12
  · subst k2;rw[show gHow 12 12=4 from rfl];have hM:=fun W=>gmoved_of ⟨p,d,s0,h0⟩ (s) (4) (12) W
    obtain⟨e,he⟩:∃e,e=gMoved ⟨p,d,s0,h0⟩ (s) (4) (12):=⟨_,rfl⟩
    rw[←he] at hM⊢;dsimp only[seatV,effV] at hM⊢;have HM:=qq hM;clear hM he;go_enter Tryz.func145,Tryz.ntmps145;go_wp2_with (first
    | (go_at_call 201;refine(HR.out _).mono ?_;rintro e w1 ⟨rfl,hb1⟩;have HA1:=qq (((Blk.fresh w _ _ _ rfl).alloc _).below hb1);have HO1:=qq ((Blk.fresh _ _ _ (w.heap.size+1) (by simp only[World.size_alloc])).below hb1);obtain⟨q1,f1⟩:=HA1.out.out;obtain⟨q2,f2⟩:=HO1.out.out;have hz1:=hb1.size;simp only[World.size_alloc] at hz1;have B1:Below w.heap.size w w1:=below_then (by go_grown) hb1)
    | (go_at_call 230;refine(HL.out _).mono ?_;rintro e w2 ⟨rfl,hb2⟩;have HA2:=qq (HA1.out.below hb2);have HO2:=qq (HO1.out.below hb2);clear q1 f1 q2 f2;have q1:=HA2.out.cell;have q2:=HO2.out.cell;have f2:=HO2.out.free;have hz2:=hb2.size;have B2:Below w.heap.size w w2:=below_then B1 hb2)
    | (go_at_call 231;refine(HM.out _).mono ?_;rintro e w3 ⟨rfl,hb3⟩;have HO3:=qq (HO2.out.below hb3);clear q1 q2 f2;obtain⟨q2,f2⟩:=HO3.out.out;have hz3:=hb3.size;have B3:Below w.heap.size w w3:=below_then B2 hb3))
    exact bodyPost_ret (v:=.tuple #[.agg #[e.seat.p,e.seat.d,e.seat.s,e.seat.h,e.send,e.fault,e.work,.bool e.ch],.int .i64 0]) (by simp[results,Tryz.results145,go_sem,q2,f2]) rfl ⟨rfl,by go_grown⟩
  by_cases k3:k=13
  · subst k3;rw[show gHow 13 13=1 from rfl];have hM:=fun W=>gmoved_of ⟨p,d,s0,h0⟩ (s) (1) (13) W
    obtain⟨e,he⟩:∃e,e=gMoved ⟨p,d,s0,h0⟩ (s) (1) (13):=⟨_,rfl⟩
    rw[←he] at hM⊢;dsimp only[seatV,effV] at hM⊢;have HM:=qq hM;clear hM he;go_enter Tryz.func145,Tryz.ntmps145;go_wp2_with (first
    | (go_at_call 201;refine(HR.out _).mono ?_;rintro e w1 ⟨rfl,hb1⟩;have HA1:=qq (((Blk.fresh w _ _ _ rfl).alloc _).below hb1);have HO1:=qq ((Blk.fresh _ _ _ (w.heap.size+1) (by simp only[World.size_alloc])).below hb1);obtain⟨q1,f1⟩:=HA1.out.out;obtain⟨q2,f2⟩:=HO1.out.out;have hz1:=hb1.size;simp only[World.size_alloc] at hz1;have B1:Below w.heap.size w w1:=below_then (by go_grown) hb1)
    | (go_at_call 230;refine(HL.out _).mono ?_;rintro e w2 ⟨rfl,hb2⟩;have HA2:=qq (HA1.out.below hb2);have HO2:=qq (HO1.out.below hb2);clear q1 f1 q2 f2;have q1:=HA2.out.cell;have q2:=HO2.out.cell;have f2:=HO2.out.free;have hz2:=hb2.size;have B2:Below w.heap.size w w2:=below_then B1 hb2)
    | (go_at_call 231;refine(HM.out _).mono ?_;rintro e w3 ⟨rfl,hb3⟩;have HO3:=qq (HO2.out.below hb3);clear q1 q2 f2;obtain⟨q2,f2⟩:=HO3.out.out;have hz3:=hb3.size;have B3:Below w.heap.size w w3:=below_then B2 hb3))
    exact bodyPost_ret (v:=.tuple #[.agg #[e.seat.p,e.seat.d,e.seat.s,e.seat.h,e.send,e.fault,e.work,.bool e.ch],.int .i64 0]) (by simp[results,Tryz.results145,go_sem,q2,f2]) rfl ⟨rfl,by go_grown⟩
  by_cases k4:k=14
  · subst k4;rw[show gHow 14 14=5 from rfl];have hM:=fun W=>gmoved_of ⟨p,d,s0,h0⟩ (s) (5) (14) W
    obtain⟨e,he⟩:∃e,e=gMoved ⟨p,d,s0,h0⟩ (s) (5) (14):=⟨_,rfl⟩
    rw[←he] at hM⊢;dsimp only[seatV,effV] at hM⊢;have HM:=qq hM;clear hM he;go_enter Tryz.func145,Tryz.ntmps145;go_wp2_with (first
    | (go_at_call 201;refine(HR.out _).mono ?_;rintro e w1 ⟨rfl,hb1⟩;have HA1:=qq (((Blk.fresh w _ _ _ rfl).alloc _).below hb1);have HO1:=qq ((Blk.fresh _ _ _ (w.heap.size+1) (by simp only[World.size_alloc])).below hb1);obtain⟨q1,f1⟩:=HA1.out.out;obtain⟨q2,f2⟩:=HO1.out.out;have hz1:=hb1.size;simp only[World.size_alloc] at hz1;have B1:Below w.heap.size w w1:=below_then (by go_grown) hb1)
    | (go_at_call 230;refine(HL.out _).mono ?_;rintro e w2 ⟨rfl,hb2⟩;have HA2:=qq (HA1.out.below hb2);have HO2:=qq (HO1.out.below hb2);clear q1 f1 q2 f2;have q1:=HA2.out.cell;have q2:=HO2.out.cell;have f2:=HO2.out.free;have hz2:=hb2.size;have B2:Below w.heap.size w w2:=below_then B1 hb2)
    | (go_at_call 231;refine(HM.out _).mono ?_;rintro e w3 ⟨rfl,hb3⟩;have HO3:=qq (HO2.out.below hb3);clear q1 q2 f2;obtain⟨q2,f2⟩:=HO3.out.out;have hz3:=hb3.size;have B3:Below w.heap.size w w3:=below_then B2 hb3))
    exact bodyPost_ret (v:=.tuple #[.agg #[e.seat.p,e.seat.d,e.seat.s,e.seat.h,e.send,e.fault,e.work,.bool e.ch],.int .i64 0]) (by simp[results,Tryz.results145,go_sem,q2,f2]) rfl ⟨rfl,by go_grown⟩
  rw[show gHow k k=k by simp[gHow,k2,k3,k4]];have l2:(k==12)=false:=by simpa using k2
  have l3:(k==13)=false:=by simpa using k3
  have l4:(k==14)=false:=by simpa using k4
  clear k2 k3 k4;have hM:=fun W=>gmoved_of ⟨p,d,s0,h0⟩ (s) (k) (k) W
  obtain⟨e,he⟩:∃e,e=gMoved ⟨p,d,s0,h0⟩ (s) (k) (k):=⟨_,rfl⟩
  rw[←he] at hM⊢;dsimp only[seatV,effV] at hM⊢;have HM:=qq hM;clear hM he;go_enter Tryz.func145,Tryz.ntmps145;go_wp2_with (first
    | (go_at_call 201;refine(HR.out _).mono ?_;rintro e w1 ⟨rfl,hb1⟩;have HA1:=qq (((Blk.fresh w _ _ _ rfl).alloc _).below hb1);have HO1:=qq ((Blk.fresh _ _ _ (w.heap.size+1) (by simp only[World.size_alloc])).below hb1);obtain⟨q1,f1⟩:=HA1.out.out;obtain⟨q2,f2⟩:=HO1.out.out;have hz1:=hb1.size;simp only[World.size_alloc] at hz1;have B1:Below w.heap.size w w1:=below_then (by go_grown) hb1)
    | (go_at_call 230;refine(HL.out _).mono ?_;rintro e w2 ⟨rfl,hb2⟩;have HA2:=qq (HA1.out.below hb2);have HO2:=qq (HO1.out.below hb2);clear q1 f1 q2 f2;have q1:=HA2.out.cell;have q2:=HO2.out.cell;have f2:=HO2.out.free;have hz2:=hb2.size;have B2:Below w.heap.size w w2:=below_then B1 hb2)
    | (go_at_call 231;refine(HM.out _).mono ?_;rintro e w3 ⟨rfl,hb3⟩;have HO3:=qq (HO2.out.below hb3);clear q1 q2 f2;obtain⟨q2,f2⟩:=HO3.out.out;have hz3:=hb3.size;have B3:Below w.heap.size w w3:=below_then B2 hb3))
  exact bodyPost_ret (v:=.tuple #[.agg #[e.seat.p,e.seat.d,e.seat.s,e.seat.h,e.send,e.fault,e.work,.bool e.ch],.int .i64 0]) (by simp[results,Tryz.results145,go_sem,q2,f2]) rfl ⟨rfl,by go_grown⟩
def doTest (x:MSeat) (k:Int):Bool:=decide ((mDo x k).2≠0) || (decide (x.s≠14) && (mRight (mDo x k).1.seat && (decide ((mDo x k).1.seat.p=x.p∧(mDo x k).1.seat.d=x.d∧(mDo x k).1.send=k) && stOk (mDo x k).1.seat.s (mDo x k).1.seat.h)))
theorem doTest_all:(seatList.all fun x=> !mRight x || kinds15.all fun k=>doTest x k)=true:=by decide+kernel
theorem doTest_in {x:MSeat} {k:Int} (h:mRight x=true):doTest x k=true:=by
 by_cases hk:0≤k∧k≤14
 · have h1:=List.all_eq_true.1 doTest_all x (seat_mem h);rw[h] at h1;exact List.all_eq_true.1 (by simpa using h1) k (by simp[kinds15];omega)
 · have h2:=(eq_out (x:=x) (k:=k) (by rw[h];simp) hk).2;have h3:(rStep x.p x.d k x.s).2≠0:=by
    unfold rStep;rw[rSends_out (fun h'=>hk ⟨by omega,by omega⟩)];by_cases hs:rSide x.p x.d=false
    · rw[if_pos hs];simp
    · rw[if_neg hs,if_pos rfl];simp
   unfold doTest mDo;rw[if_neg (by rw[h];simp),if_pos h3];simp[h3]
theorem do_goes {x:MSeat} {k:Int} (h:mRight x=true) (h0:(mDo x k).2=0):x.s≠14∧mRight (mDo x k).1.seat=true∧((mDo x k).1.seat.p=x.p∧(mDo x k).1.seat.d=x.d∧(mDo x k).1.send=k)∧stOk (mDo x k).1.seat.s (mDo x k).1.seat.h=true:=by
 have h1:=doTest_in (k:=k) h;unfold doTest at h1;simp only[Bool.or_eq_true,Bool.and_eq_true,decide_eq_true_eq] at h1;rcases h1 with h1 | h1
 · exact absurd h0 h1
 · exact⟨h1.1,h1.2.1,h1.2.2.1,h1.2.2.2⟩
def MsgC (w:World) (b o:Nat) (m:SMsg):Prop:=w.cell? ⟨b,o,none⟩=some (.int .i64 m.k)∧w.cell? ⟨b,o+1,none⟩=some (.int .i64 m.fr)∧w.cell? ⟨b,o+2,none⟩=some (.int .i64 m.to)∧w.cell? ⟨b,o+3,none⟩=some (.int .i64 m.an)∧w.cell? ⟨b,o+4,none⟩=some (.int .i64 m.aq)∧w.cell? ⟨b,o+5,none⟩=some (.int .i64 m.rg)∧w.cell? ⟨b,o+6,none⟩=some (.int .i64 m.pt)∧w.cell? ⟨b,o+7,none⟩=some (.int .i64 m.pr)∧w.cell? ⟨b,o+8,none⟩=some (.int .i64 m.co)
theorem MsgC.below {w w':World} {b o:Nat} {m:SMsg} (h:MsgC w b o m) (hb:Below w.heap.size w w') (hl:b<w.heap.size):MsgC w' b o m:=
 ⟨(hb.cell (p:=⟨b,o,none⟩) hl).trans h.1,(hb.cell (p:=⟨b,o+1,none⟩) hl).trans h.2.1,(hb.cell (p:=⟨b,o+2,none⟩) hl).trans h.2.2.1,(hb.cell (p:=⟨b,o+3,none⟩) hl).trans h.2.2.2.1,(hb.cell (p:=⟨b,o+4,none⟩) hl).trans h.2.2.2.2.1,(hb.cell (p:=⟨b,o+5,none⟩) hl).trans h.2.2.2.2.2.1,(hb.cell (p:=⟨b,o+6,none⟩) hl).trans h.2.2.2.2.2.2.1,(hb.cell (p:=⟨b,o+7,none⟩) hl).trans h.2.2.2.2.2.2.2.1,(hb.cell (p:=⟨b,o+8,none⟩) hl).trans h.2.2.2.2.2.2.2.2⟩
def ReadMsgs (w:World) (v:Value) (ms:List SMsg):Prop:=∃a cap,v=.slice a ms.length cap∧(ms≠[]→∃b off,a=some ⟨b,off,none⟩∧b<w.heap.size∧∀(j:Nat) (h:j<ms.length),MsgC w b (off+j*9) ms[j])
theorem ReadMsgs.below {w w':World} {v:Value} {ms:List SMsg} (h:ReadMsgs w v ms) (hb:Below w.heap.size w w'):ReadMsgs w' v ms:=by
 obtain⟨a,cap,hv,hr⟩:=h;refine⟨a,cap,hv,fun hn=> ?_⟩;obtain⟨b,off,ha,hl,hc⟩:=hr hn;exact⟨b,off,ha,Nat.lt_of_lt_of_le hl hb.size,fun j hj=>(hc j hj).below hb hl⟩
theorem ReadFacts.below {w w':World} {v:Value} {fs:List SFact} (h:ReadFacts w v fs) (hb:Below w.heap.size w w'):ReadFacts w' v fs:=by
 obtain⟨a,cap,hv,hr⟩:=h;refine⟨a,cap,hv,fun hn=> ?_⟩;obtain⟨b,off,ha,hl,hc⟩:=hr hn;exact⟨b,off,ha,Nat.lt_of_lt_of_le hl hb.size,fun j hj=>(hc j hj).below hb hl⟩
theorem read_mrow {w:World} {B:Nat} {v:Value} {ms:List SMsg} (h:w.ownsRow B 81 9 v ms.length (msgsL ms)):ReadMsgs w v ms:=by
 obtain⟨a,cap,hv⟩:=row_slice h;subst hv;refine⟨a,cap,rfl,fun hn=> ?_⟩;obtain⟨g,cap',hv,_,_,hg,hc,_⟩:=row_form h (by cases ms with | nil=>exact absurd rfl hn | cons=>simp);simp only[Value.slice.injEq,true_and] at hv;obtain⟨rfl,rfl⟩:=hv;refine⟨g,0,rfl,hg,fun j hj=> ?_⟩;have hat:=fun i hi=>flat_at msgL 9 msgL_len ms j i hj hi
 rw[Nat.zero_add];exact⟨hc _ _ (hat 0 (by decide)),hc _ _ (hat 1 (by decide)),hc _ _ (hat 2 (by decide)),hc _ _ (hat 3 (by decide)),hc _ _ (hat 4 (by decide)),hc _ _ (hat 5 (by decide)),hc _ _ (hat 6 (by decide)),hc _ _ (hat 7 (by decide)),hc _ _ (hat 8 (by decide))⟩
theorem slice_own {w:World} {B:Nat} {T:TypeId} {s:Nat} {v:Value} {n:Nat} {xs:List Value} (h:w.ownsRow B T s v n xs):∀k,sliceBlock v=some k→v.ownBlock=some k:=by
 intro k hk;rcases h.2 with⟨hv,_⟩ | ⟨g,cap',cur,hv,_⟩
 · subst hv;cases hk
 · subst hv;simpa[sliceBlock,Value.ownBlock] using hk
theorem read_mnil {w:World} {cap:Nat} {a:Option Addr}:ReadMsgs w (.slice a 0 cap) []:=⟨a,cap,rfl,fun h=>absurd rfl h⟩
theorem rright05_of (n q:Int) (w:World):Calls Tryz.prog 197 #[.agg #[n,q]] w (Makes (.bool (idOk n q)) w):=by
 unfold idOk;by_cases h1:0≤n
 · by_cases h2:n≤3
   · have h2':n<4:=by omega
     by_cases h3:0≤q
     · by_cases h4:q≤999999
       · have h4':q<1000000:=by omega
         rw[decide_eq_true ⟨h1,h2,h3,h4⟩];go_enter Tryz.func197,Tryz.ntmps197;go_wp2_with fail;go_ret;exact⟨rfl,by go_grown⟩
       · have h4':¬q<1000000:=by omega
         rw[decide_eq_false (fun h=>h4 h.2.2.2)];go_enter Tryz.func197,Tryz.ntmps197;go_wp2_with fail;go_ret;exact⟨rfl,by go_grown⟩
     · rw[decide_eq_false (fun h=>h3 h.2.2.1)];go_enter Tryz.func197,Tryz.ntmps197;go_wp2_with fail;go_ret;exact⟨rfl,by go_grown⟩
   · have h2':¬n<4:=by omega
     rw[decide_eq_false (fun h=>h2 h.2.1)];go_enter Tryz.func197,Tryz.ntmps197;go_wp2_with fail;go_ret;exact⟨rfl,by go_grown⟩
 · rw[decide_eq_false (fun h=>h1 h.1)];go_enter Tryz.func197,Tryz.ntmps197;go_wp2_with fail;go_ret;exact⟨rfl,by go_grown⟩
theorem rstate_of (s h:Int) (w:World):Calls Tryz.prog 198 #[.int .i64 s,.int .i64 h] w (Gives (.bool (stOk s h)) w):=by
 unfold stOk;by_cases h1:s=14
 · rw[if_pos h1];have e1:(s==14)=true:=by simpa using h1
   by_cases h2:h=1
   · have e2:(h==1)=true:=by simpa using h2
     rw[decide_eq_true (Or.inl h2)];clear h1 h2;go_enter Tryz.func198,Tryz.ntmps198;go_wp2_with fail;go_ret;exact⟨rfl,rfl⟩
   · have e2:(h==1)=false:=by simpa using h2
     have hd:decide (h=1∨4≤h∧h≤8)=decide (4≤h∧h≤8):=decide_eq_decide.2 ⟨fun x=>x.resolve_left h2,Or.inr⟩;rw[hd];clear h1 h2 hd;by_cases h3:4≤h
     · by_cases h4:h≤8
       · rw[decide_eq_true ⟨h3,h4⟩];go_enter Tryz.func198,Tryz.ntmps198;go_wp2_with fail;go_ret;exact⟨rfl,rfl⟩
       · rw[decide_eq_false (fun x=>h4 x.2)];go_enter Tryz.func198,Tryz.ntmps198;go_wp2_with fail;go_ret;exact⟨rfl,rfl⟩
     · rw[decide_eq_false (fun x=>h3 x.1)];go_enter Tryz.func198,Tryz.ntmps198;go_wp2_with fail;go_ret;exact⟨rfl,rfl⟩
 · rw[if_neg h1];have e1:(s==14)=false:=by simpa using h1
   clear h1;by_cases h2:1≤s
   · by_cases h3:s≤13
     · have e2:(h==0)=decide (h=0):=by by_cases h0:h=0<;>simp[h0]
       rw[show decide (1≤s∧s≤13∧h=0)=decide (h=0) from decide_eq_decide.2 ⟨fun x=>x.2.2,fun x=>⟨h2,h3,x⟩⟩];generalize decide (h=0)=d at*;go_enter Tryz.func198,Tryz.ntmps198;go_wp2_with fail;go_ret;exact⟨rfl,rfl⟩
     · rw[decide_eq_false (fun x=>h3 x.2.1)];go_enter Tryz.func198,Tryz.ntmps198;go_wp2_with fail;go_ret;exact⟨rfl,rfl⟩
   · rw[decide_eq_false (fun x=>h2 x.1)];go_enter Tryz.func198,Tryz.ntmps198;go_wp2_with fail;go_ret;exact⟨rfl,rfl⟩
def fnums (f:SFact):List Int:=[f.k,f.an,f.aq,f.rg,f.nd,f.pt,f.pr,f.oc,f.dp,f.pa,f.st,f.hw,f.de]
theorem numbers_of (f:SFact) (w:World):Calls Tryz.prog 119 #[factV f] w (fun e w'=>∃g,e=.returned (.slice (some ⟨g,0,none⟩) 13 13)∧Blk w' g #[f.k,f.an,f.aq,f.rg,f.nd,f.pt,f.pr,f.oc,f.dp,f.pa,f.st,f.hw,f.de]∧Below w.heap.size w w'):=by
 obtain⟨k,an,aq,rg,nd,pt,pr,oc,dp,pa,st,hw,de,ex⟩:=f;dsimp only[factV,factC];go_enter Tryz.func119,Tryz.ntmps119;go_wp2_with fail;go_ret;exact⟨w.heap.size+1,rfl,Blk.fresh _ _ _ _ (by simp),by go_grown⟩
end Go.Proofs.YtlkajejbfojkeaaGreatDoor
