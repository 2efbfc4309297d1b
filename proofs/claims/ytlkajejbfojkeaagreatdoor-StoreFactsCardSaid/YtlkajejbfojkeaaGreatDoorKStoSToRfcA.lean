/- StoS, PaB, BuA, PaC, DoA, RfcA -/
import Derived.Test.YtlkajejbfojkeaaGreatDoorKStoQ
import Derived.Test.YtlkajejbfojkeaaGreatDoorKStoF
import Derived.Test.YtlkajejbfojkeaaGreatDoorKStoH
import Derived.Test.YtlkajejbfojkeaaGreatDoorKStoLToStoD
set_option linter.unusedSimpArgs false
set_option linter.unusedVariables false
set_option maxRecDepth 100000
set_option maxHeartbeats 16000000
namespace Go.Proofs.YtlkajejbfojkeaaGreatDoor
open Go.RowKit
theorem EnvS.err3 {ea:Int→Addr} {w:World} (h:EnvS ea w):Err3 ea w:=⟨h.e.e1,h.e.e4,h.e.e14⟩
theorem ends_ok {L:SLoc} {T:Sto} {ea:Int→Addr} {w:World} {P:Sto×Int} (h:P=(T,0)):ApplyEnds L T (if true=true then 0 else 9) ea w=ApplyEnds L P.1 P.2 ea w:=by rw[h];rfl
theorem ends_no {L:SLoc} {T:Sto} {ea:Int→Addr} {w:World} {P:Sto×Int} (h:P=(T,9)):ApplyEnds L T (if false=true then 0 else 9) ea w=ApplyEnds L P.1 P.2 ea w:=by rw[h];rfl
theorem apply_of (L : SLoc) (S : Sto) (f : SFact) (ea : Int → Addr) (w : World) (hx : F64 f.ex) (hE : EnvG L ea w) (h : StoreAt L S w) (hG : StoGood S) :
    Calls Tryz.prog 21 #[.pointer (some ⟨L.sb,0,none⟩),factV f] w (ApplyEnds L (sapply S f).1 (sapply S f).2 ea w):=by
 cases hok:fok f with
 | false=>
  have e:sapply S f=(S,4):=by unfold sapply;rw[if_pos hok]
  rw[e];exact apply_bad L S f ea w hx hE h hok
 | true=>
  have hs:∀T,sput S f=some T→sapply S f=(T,0):=fun T hT=>by unfold sapply;rw[if_neg (by rw[hok];simp),hT]
  have hn:sput S f=none→sapply S f=(S,9):=fun hT=>by unfold sapply;rw[if_neg (by rw[hok];simp),hT]
  have hkk:=fok_any hok;by_cases k1:f.k=1
  · obtain⟨f1,f2,f3⟩:=fok1 hok k1;have fi:=ctxOk_id f1;by_cases c1:f.an=S.node
    case neg=>
     have e:sput S f=none:=by unfold sput;rw[if_pos k1,if_pos (.inl c1)]
     rw[←ends_no (hn e)];exact apply_open L S f false ea w hx hE hok k1 (fun W hW=>(opened_no1 L S f W (h.below hW) hG ⟨f2,f3⟩ c1))
    by_cases c2:S.next≤f.aq
    case neg=>
     have e:sput S f=none:=by unfold sput;rw[if_pos k1,if_pos (.inr (.inl (by omega)))]
     rw[←ends_no (hn e)];exact apply_open L S f false ea w hx hE hok k1 (fun W hW=>(opened_no2 L S f W (h.below hW) hG ⟨f2,f3⟩ c1 (by omega)))
    by_cases c3:S.acts.length<8
    case neg=>
     have e:sput S f=none:=by unfold sput;rw[if_pos k1,if_pos (.inr (.inr (.inl (by omega))))]
     rw[←ends_no (hn e)];exact apply_open L S f false ea w hx hE hok k1 (fun W hW=>(opened_no3 L S f W (h.below hW) hG ⟨f2,f3⟩ c1 c2 (by omega)))
    by_cases c4:0<f.pa→f.pa≤(S.parts.length:Int)∧schild S f.pa=none
    · have e:sput S f=some {S with next:=f.aq+1,acts:=S.acts ++ [⟨f.an,f.aq,f.oc,f.dp,f.ex,f.pa,0,[]⟩]}:=by
       unfold sput;rw[if_pos k1,if_neg];rintro(e | e | e | ⟨e1,e2⟩)
       · exact e c1
       · omega
       · omega
       · obtain⟨q1,q2⟩:=c4 e1;rcases e2 with e2 | e2
         · omega
         · rw[q2] at e2;cases e2
      rw[←ends_ok (hs _ e)];exact apply_open L _ f true ea w hx hE hok k1 (fun W hW=>(opened_yes L S f W (h.below hW) hG ⟨fi.2.2.1,fi.2.2.2⟩ ⟨f2,f3⟩ c1 c2 c3 c4))
    · have c5:0<f.pa:=Decidable.byContradiction fun e=>c4 (fun e'=>absurd e' e)
      by_cases c6:f.pa≤(S.parts.length:Int)
      · cases hc:schild S f.pa with
        | none=>exact absurd (fun _=>⟨c6,hc⟩) c4
        | some i=>
         have e:sput S f=none:=by unfold sput;rw[if_pos k1,if_pos (.inr (.inr (.inr ⟨c5,.inr (by rw[hc];rfl)⟩)))]
         rw[←ends_no (hn e)];exact apply_open L S f false ea w hx hE hok k1 (fun W hW=>(opened_no5 L S f W (h.below hW) hG ⟨f2,f3⟩ i c1 c2 c3 c5 c6 hc))
      · have e:sput S f=none:=by unfold sput;rw[if_pos k1,if_pos (.inr (.inr (.inr ⟨c5,.inl (by omega)⟩)))]
        rw[←ends_no (hn e)];exact apply_open L S f false ea w hx hE hok k1 (fun W hW=>(opened_no4 L S f W (h.below hW) hG ⟨f2,f3⟩ c1 c2 c3 c5 (by omega)))
  by_cases k6:f.k=6
  · obtain⟨f1,f2,f3,f4,f5⟩:=fok6 hok k6;by_cases c:f.pt=(S.parts.length:Int)
    · have e:sput S f=some {S with parts:=S.parts ++ [⟨f.an,f.aq,-1,⟨f.pr,2,1,0⟩⟩]}:=by unfold sput;rw[if_neg k1,if_pos k6,if_neg (by simp[c])]
      rw[←ends_ok (hs _ e)];exact apply_join L _ f true ea w hx hE hok k6 (fun W hW=>(joined_yes L S f W (h.below hW) hG ⟨f4,f5⟩ c))
    · have e:sput S f=none:=by unfold sput;rw[if_neg k1,if_pos k6,if_pos c]
      rw[←ends_no (hn e)];exact apply_join L S f false ea w hx hE hok k6 (fun W hW=>(joined_no L S f W (h.below hW) hG ⟨f4,f5⟩ c))
  by_cases k78:f.k=7∨f.k=8
  · have h0:0≤f.pt:=by
     rcases k78 with k | k
     · exact(fok7 hok k).1
     · exact(fok8 hok k).1
    by_cases c:f.pt<(S.parts.length:Int)
    case neg=>
     have e:sput S f=none:=by
      unfold sput;rw[if_neg k1,if_neg k6,if_pos k78,List.getElem?_eq_none (by omega)]
     rw[hn e];exact apply_nopart L S f ea w hx hE h hok k78 (fun x=>c x.2)
    obtain⟨i,hi⟩:∃i:Nat,f.pt=(i:Int):=⟨f.pt.toNat,by omega⟩
    have hil:i<S.parts.length:=by omega
    have hp:S.parts[i]? =some S.parts[i]:=List.getElem?_eq_getElem hil;have hit:f.pt.toNat=i:=by omega
    obtain⟨p,hpe⟩:∃p,p=S.parts[i]:=⟨_,rfl⟩
    rw[←hpe] at hp;by_cases k8:f.k=8
    · cases ht:sturn p.seat f.st f.hw with
      | none=>
       have e:sput S f=none:=by
        unfold sput;rw[if_neg k1,if_neg k6,if_pos k78,hit,hp];simp only;rw[if_pos k8,ht];rfl
       rw[←ends_no (hn e)];exact apply_part L S S f false ea w hx hE h hok k78 ⟨h0,c⟩ (fun W hW=>parted8_no L S f i p ea W (hE.below hW).err3 (h.below hW) k8 hi hp ht)
      | some t=>
       have e:sput S f=some {S with parts:=S.parts.set i {p with seat:=t}}:=by
        unfold sput;rw[if_neg k1,if_neg k6,if_pos k78,hit,hp];simp only;rw[if_pos k8,ht];rfl
       rw[←ends_ok (hs _ e)];exact apply_part L S _ f true ea w hx hE h hok k78 ⟨h0,c⟩ (fun W hW=>parted8_yes L S f i p t ea W (hE.below hW).err3 (h.below hW) k8 hi hp ht)
    · have k7:=k78.resolve_right k8;by_cases hr:p.rg= -1
      · have e:sput S f=some {S with parts:=S.parts.set i {p with rg:=f.rg}}:=by
         unfold sput;rw[if_neg k1,if_neg k6,if_pos k78,hit,hp];simp only;rw[if_neg k8,if_neg (by simp[hr])]
        rw[←ends_ok (hs _ e)];exact apply_part L S _ f true ea w hx hE h hok k78 ⟨h0,c⟩ (fun W hW=>parted7_yes L S f i p W (h.below hW) k7 hi hp hr)
      · have e:sput S f=none:=by
         unfold sput;rw[if_neg k1,if_neg k6,if_pos k78,hit,hp];simp only;rw[if_neg k8,if_pos hr]
        rw[←ends_no (hn e)];exact apply_part L S S f false ea w hx hE h hok k78 ⟨h0,c⟩ (fun W hW=>parted7_no L S f i p W (h.below hW) k7 hi hp hr)
  have hk4:f.k≠1∧f.k≠6∧f.k≠7∧f.k≠8:=⟨k1,k6,fun e=>k78 (.inl e),fun e=>k78 (.inr e)⟩
  cases hi:sfind S f.an f.aq with
  | none=>
   have e:sput S f=none:=by unfold sput;rw[if_neg k1,if_neg k6,if_neg k78,hi]
   rw[hn e];exact apply_noact L S f ea w hx hE h hG hok hk4 hi
  | some i=>
   have hil:i<S.acts.length:=by unfold sfind at hi;exact(List.findIdx?_eq_some_iff_getElem.1 hi).1
   obtain⟨a,ha⟩:∃a,S.acts[i]? =some a:=⟨_,List.getElem?_eq_getElem hil⟩
   obtain⟨x,hxi⟩:∃x,L.ab[i]? =some x:=⟨_,List.getElem?_eq_getElem (by rw[h.len];exact hil)⟩
   have hA:=hG.act a (List.mem_of_getElem? ha);have hl:=hA.len;have hsp:sput S f=if f.k=5 then(if(a.regs.any fun r=>decide (r.seat.s≠14))=true then none else some {S with acts:=S.acts.take i ++S.acts.drop (i+1)}) else(sact a f).map fun b=>{S with acts:=S.acts.set i b}:=by
    unfold sput;rw[if_neg k1,if_neg k6,if_neg k78,hi];simp only;rw[ha]
   have yes:∀T,sput S f=some T→(∀W,Below w.heap.size w W→Calls Tryz.prog 89 #[.pointer (some ⟨L.sb,0,none⟩),.pointer (some ⟨x.1,0,none⟩),factV f] W fun e w'=>e=.returned (.bool true)∧SGoes L T W w')→Calls Tryz.prog 21 #[.pointer (some ⟨L.sb,0,none⟩),factV f] w (ApplyEnds L (sapply S f).1 (sapply S f).2 ea w):=fun T hT hC=>by
    rw[←ends_ok (hs _ hT)];exact apply_act L S T f i x true ea w hx hE h hG hok hk4 hi hxi hC
   have no:sput S f=none→(∀W,Below w.heap.size w W→Calls Tryz.prog 89 #[.pointer (some ⟨L.sb,0,none⟩),.pointer (some ⟨x.1,0,none⟩),factV f] W fun e w'=>e=.returned (.bool false)∧SGoes L S W w')→Calls Tryz.prog 21 #[.pointer (some ⟨L.sb,0,none⟩),factV f] w (ApplyEnds L (sapply S f).1 (sapply S f).2 ea w):=fun hT hC=>by
    rw[←ends_no (hn hT)];exact apply_act L S S f i x false ea w hx hE h hG hok hk4 hi hxi hC
   have hxl:∀W,Below w.heap.size w W→StoreAt L S W:=fun W hW=>h.below hW
   by_cases k5:f.k=5
   · rw[if_pos k5] at hsp
     cases hany:(a.regs.any fun r=>decide (r.seat.s≠14)) with
     | true=>
      rw[hany,if_pos rfl] at hsp;exact no hsp (fun W hW=>acted_5n L S f i x a W (hxl W hW) hxi ha hl k5 hany)
     | false=>
      rw[hany,if_neg (by simp)] at hsp;exact yes _ hsp (fun W hW=>acted_5y L S f i x a W (hxl W hW) hG hxi ha hl k5 hany)
   rw[if_neg k5] at hsp;by_cases k2:f.k=2
   · obtain⟨f1,f2,f3,f4,f5,f6,f7,f8,f9⟩:=fok2 hok k2;by_cases c1:f.rg=(a.regs.length:Int)
     case neg=>
      have e:sact a f=none:=by unfold sact;rw[if_pos k2,if_pos (.inl c1)]
      rw[e] at hsp;exact no hsp (fun W hW=>acted_2 L S f x.1 false W k2 (fun W' hW'=>enrolled_no1 L S f i x a W' ((hxl W hW).below hW') hl hxi ha ⟨f8,f9⟩ c1))
     by_cases c2:a.de=0
     case neg=>
      have e:sact a f=none:=by unfold sact;rw[if_pos k2,if_pos (.inr (.inl c2))]
      rw[e] at hsp;exact no hsp (fun W hW=>acted_2 L S f x.1 false W k2 (fun W' hW'=>enrolled_no2 L S f i x a W' ((hxl W hW).below hW') hl hxi ha ⟨f8,f9⟩ c1 c2))
     cases hany:(a.regs.any fun r=>decide (r.n=f.nd∧r.p=f.pt)) with
     | true=>
      have e:sact a f=none:=by unfold sact;rw[if_pos k2,if_pos (.inr (.inr hany))]
      rw[e] at hsp;exact no hsp (fun W hW=>acted_2 L S f x.1 false W k2 (fun W' hW'=>enrolled_no3 L S f i x a W' ((hxl W hW).below hW') hl hxi ha ⟨f8,f9⟩ c1 c2 hany))
     | false=>
      have e:sact a f=some {a with regs:=a.regs ++ [⟨f.nd,f.pt,⟨f.pr,1,1,0⟩⟩]}:=by
       unfold sact;rw[if_pos k2,if_neg];rintro(e | e | e)
       · exact e c1
       · exact e c2
       · rw[hany] at e;cases e
      rw[e] at hsp;exact yes _ hsp (fun W hW=>acted_2 L _ f x.1 true W k2 (fun W' hW'=>enrolled_yes L S f i x a W' ((hxl W hW).below hW') hl hxi ha ⟨f8,f9⟩ c1 c2 hany))
   by_cases k3:f.k=3
   · obtain⟨f1,f2,f3,f4⟩:=fok3 hok k3;have hsa : sact a f = match a.regs[f.rg.toNat]? with
         | none=>none
         | some r=>(sturn r.seat f.st f.hw).map fun t=>{a with regs:=a.regs.set f.rg.toNat {r with seat:=t}}:=by
      unfold sact;rw[if_neg k2,if_pos k3];cases a.regs[f.rg.toNat]? <;>rfl
     by_cases c1:f.rg<(a.regs.length:Int)
     case neg=>
      have e:sact a f=none:=by rw[hsa,List.getElem?_eq_none (by omega)]
      rw[e] at hsp;exact no hsp (fun W hW=>acted_3o L S f i x a W (hxl W hW) hxi ha hl k3 (by omega))
     obtain⟨j,hj⟩:∃j:Nat,f.rg=(j:Int):=⟨f.rg.toNat,by omega⟩
     have hjt:f.rg.toNat=j:=by omega
     obtain⟨r,hr⟩:∃r,a.regs[j]? =some r:=⟨_,List.getElem?_eq_getElem (by omega)⟩
     rw[hjt,hr] at hsa;simp only at hsa
     cases ht:sturn r.seat f.st f.hw with
     | none=>
      rw[ht] at hsa;rw[hsa] at hsp;exact no hsp (fun W hW=>acted_3n L S f i j x a r ea W (hE.below hW).err3 (hxl W hW) hxi ha hl k3 hj hr ht)
     | some t=>
      rw[ht] at hsa;rw[hsa] at hsp;exact yes _ hsp (fun W hW=>acted_3y L S f i j x a r t ea W (hE.below hW).err3 (hxl W hW) hxi ha hl k3 hj hr ht)
   have k4:f.k=4:=by omega
   have hsa:sact a f=if a.oc≠1∨a.de≠0 then none else some {a with de:=f.de}:=by
    unfold sact;rw[if_neg k2,if_neg k3]
   by_cases c:a.oc≠1∨a.de≠0
   · rw[hsa,if_pos c] at hsp;exact no hsp (fun W hW=>acted_4n L S f i x a W (hxl W hW) hxi ha k4 c)
   · rw[hsa,if_neg c] at hsp;exact yes _ hsp (fun W hW=>acted_4y L S f i x a W (hxl W hW) hxi ha k4 (Decidable.byContradiction fun e=>c (.inl e)) (Decidable.byContradiction fun e=>c (.inr e)))
open Go.RowKit Go.Shelf
attribute [local go_sem] store_float
def factL (f:SFact):List Value:=[.int .i64 f.k,.int .i64 f.an,.int .i64 f.aq,.int .i64 f.rg,.int .i64 f.nd,.int .i64 f.pt,.int .i64 f.pr,.int .i64 f.oc,.int .i64 f.dp,.int .i64 f.pa,.int .i64 f.st,.int .i64 f.hw,.int .i64 f.de,.float .f64 f.ex]
def factsL (fs:List SFact):List Value:=fs.flatMap factL
def msgL (m:SMsg):List Value:=[.int .i64 m.k,.int .i64 m.fr,.int .i64 m.to,.int .i64 m.an,.int .i64 m.aq,.int .i64 m.rg,.int .i64 m.pt,.int .i64 m.pr,.int .i64 m.co]
def msgsL (ms:List SMsg):List Value:=ms.flatMap msgL
structure QLoc where
 rb:Nat
 fv:Value
 mv:Value
def QLoc.foot (q:QLoc):List Nat:=q.rb::(q.fv.ownBlock.toList ++q.mv.ownBlock.toList)
theorem QLoc.mem {q:QLoc} {k:Nat}:k∈q.foot↔k=q.rb∨q.fv.ownBlock=some k∨q.mv.ownBlock=some k:=by
 unfold QLoc.foot;simp[List.mem_append]
structure ResAt (q:QLoc) (r:SRes) (w:World):Prop where
 blk:Blk w q.rb #[q.fv,q.mv,r.wk]
 fs:w.ownsRow 0 39 14 q.fv r.fs.length (factsL r.fs)
 ms:w.ownsRow 0 81 9 q.mv r.ms.length (msgsL r.ms)
 n1:q.fv.ownBlock≠some q.rb
 n2:q.mv.ownBlock≠some q.rb
 n3:∀k,q.fv.ownBlock=some k→q.mv.ownBlock≠some k
theorem ResAt.lt {q:QLoc} {r:SRes} {w:World} (h:ResAt q r w):∀k∈q.foot,k<w.heap.size:=by
 intro k hk;rcases QLoc.mem.1 hk with rfl | hk | hk
 · exact h.blk.lt
 · exact(h.fs.lt k hk).2
 · exact(h.ms.lt k hk).2
theorem ResAt.below {q:QLoc} {r:SRes} {w w':World} (h:ResAt q r w) (hb:Below w.heap.size w w'):ResAt q r w':=
 ⟨h.blk.below hb,row_heap h.fs (fun k hk=>hb.block k (h.fs.lt k hk).2),row_heap h.ms (fun k hk=>hb.block k (h.ms.lt k hk).2),h.n1,h.n2,h.n3⟩
def QGoes (q:QLoc) (r:SRes) (w w':World):Prop:=∃q',q'.rb=q.rb∧ResAt q' r w'∧Goes q.foot q'.foot w w'
theorem QGoes.after {q:QLoc} {r:SRes} {w w1 w':World} (hb:Below w.heap.size w w1) (h:QGoes q r w1 w'):QGoes q r w w':=by
 obtain⟨q',h1,h2,h3⟩:=h;exact⟨q',h1,h2,.after hb h3⟩
theorem QGoes.then_below {q:QLoc} {r:SRes} {w w1 w':World} (h:QGoes q r w w1) (hb:Below w1.heap.size w1 w'):QGoes q r w w':=by
 obtain⟨q',h1,h2,h3⟩:=h;exact⟨q',h1,h2.below hb,h3.then_below hb⟩
def FactAt (w:World) (b o:Nat) (f:SFact):Prop:=w.cell? ⟨b,o,none⟩=some (.int .i64 f.k)∧w.cell? ⟨b,o+1,none⟩=some (.int .i64 f.an)∧w.cell? ⟨b,o+2,none⟩=some (.int .i64 f.aq)∧w.cell? ⟨b,o+3,none⟩=some (.int .i64 f.rg)∧w.cell? ⟨b,o+4,none⟩=some (.int .i64 f.nd)∧w.cell? ⟨b,o+5,none⟩=some (.int .i64 f.pt)∧w.cell? ⟨b,o+6,none⟩=some (.int .i64 f.pr)∧w.cell? ⟨b,o+7,none⟩=some (.int .i64 f.oc)∧w.cell? ⟨b,o+8,none⟩=some (.int .i64 f.dp)∧w.cell? ⟨b,o+9,none⟩=some (.int .i64 f.pa)∧w.cell? ⟨b,o+10,none⟩=some (.int .i64 f.st)∧w.cell? ⟨b,o+11,none⟩=some (.int .i64 f.hw)∧w.cell? ⟨b,o+12,none⟩=some (.int .i64 f.de)∧w.cell? ⟨b,o+13,none⟩=some (.float .f64 f.ex)
theorem FactAt.below {w w':World} {b o:Nat} {f:SFact} (h:FactAt w b o f) (hb:Below w.heap.size w w') (hl:b<w.heap.size):FactAt w' b o f:=
 ⟨(hb.cell (p:=⟨b,o,none⟩) hl).trans h.1,(hb.cell (p:=⟨b,o+1,none⟩) hl).trans h.2.1,(hb.cell (p:=⟨b,o+2,none⟩) hl).trans h.2.2.1,(hb.cell (p:=⟨b,o+3,none⟩) hl).trans h.2.2.2.1,(hb.cell (p:=⟨b,o+4,none⟩) hl).trans h.2.2.2.2.1,(hb.cell (p:=⟨b,o+5,none⟩) hl).trans h.2.2.2.2.2.1,(hb.cell (p:=⟨b,o+6,none⟩) hl).trans h.2.2.2.2.2.2.1,(hb.cell (p:=⟨b,o+7,none⟩) hl).trans h.2.2.2.2.2.2.2.1,(hb.cell (p:=⟨b,o+8,none⟩) hl).trans h.2.2.2.2.2.2.2.2.1,(hb.cell (p:=⟨b,o+9,none⟩) hl).trans h.2.2.2.2.2.2.2.2.2.1,(hb.cell (p:=⟨b,o+10,none⟩) hl).trans h.2.2.2.2.2.2.2.2.2.2.1,(hb.cell (p:=⟨b,o+11,none⟩) hl).trans h.2.2.2.2.2.2.2.2.2.2.2.1,(hb.cell (p:=⟨b,o+12,none⟩) hl).trans h.2.2.2.2.2.2.2.2.2.2.2.2.1,(hb.cell (p:=⟨b,o+13,none⟩) hl).trans h.2.2.2.2.2.2.2.2.2.2.2.2.2⟩
theorem FactAt.heap {w w':World} {b o:Nat} {f:SFact} (h:FactAt w b o f) (he:w'.heap[b]? =w.heap[b]?):FactAt w' b o f:=
 ⟨(World.cell?_of_block (w:=w) (a:=⟨b,o,none⟩) he).trans h.1,(World.cell?_of_block (w:=w) (a:=⟨b,o+1,none⟩) he).trans h.2.1,(World.cell?_of_block (w:=w) (a:=⟨b,o+2,none⟩) he).trans h.2.2.1,(World.cell?_of_block (w:=w) (a:=⟨b,o+3,none⟩) he).trans h.2.2.2.1,(World.cell?_of_block (w:=w) (a:=⟨b,o+4,none⟩) he).trans h.2.2.2.2.1,(World.cell?_of_block (w:=w) (a:=⟨b,o+5,none⟩) he).trans h.2.2.2.2.2.1,(World.cell?_of_block (w:=w) (a:=⟨b,o+6,none⟩) he).trans h.2.2.2.2.2.2.1,(World.cell?_of_block (w:=w) (a:=⟨b,o+7,none⟩) he).trans h.2.2.2.2.2.2.2.1,(World.cell?_of_block (w:=w) (a:=⟨b,o+8,none⟩) he).trans h.2.2.2.2.2.2.2.2.1,(World.cell?_of_block (w:=w) (a:=⟨b,o+9,none⟩) he).trans h.2.2.2.2.2.2.2.2.2.1,(World.cell?_of_block (w:=w) (a:=⟨b,o+10,none⟩) he).trans h.2.2.2.2.2.2.2.2.2.2.1,(World.cell?_of_block (w:=w) (a:=⟨b,o+11,none⟩) he).trans h.2.2.2.2.2.2.2.2.2.2.2.1,(World.cell?_of_block (w:=w) (a:=⟨b,o+12,none⟩) he).trans h.2.2.2.2.2.2.2.2.2.2.2.2.1,(World.cell?_of_block (w:=w) (a:=⟨b,o+13,none⟩) he).trans h.2.2.2.2.2.2.2.2.2.2.2.2.2⟩
def ReadFacts (w:World) (v:Value) (fs:List SFact):Prop:=∃a cap,v=.slice a fs.length cap∧(fs≠[]→∃b off,a=some ⟨b,off,none⟩∧b<w.heap.size∧∀(j:Nat) (h:j<fs.length),FactAt w b (off+j*14) fs[j])
def sliceBlock:Value→Option Nat
 | .slice (some a) _ _=>some a.block
 | _=>none
theorem ReadFacts.heap {w w':World} {v:Value} {fs:List SFact} (h:ReadFacts w v fs) (hz:w.heap.size≤w'.heap.size) (he:∀k,sliceBlock v=some k→w'.heap[k]? =w.heap[k]?):ReadFacts w' v fs:=by
 obtain⟨a,cap,rfl,h⟩:=h;refine⟨a,cap,rfl,fun hn=> ?_⟩;obtain⟨b,off,rfl,hb,hf⟩:=h hn;exact⟨b,off,rfl,by omega,fun j hj=>(hf j hj).heap (he b rfl)⟩
theorem envG_of {ea:Int→Addr} {w w1:World} {L:SLoc} (hE:EnvS ea w) (hb:Below w.heap.size w w1) (hL:∀k∈L.foot,w.heap.size≤k):EnvG L ea w1:=
 fun _ _ hg=>hE.below (hb.trans (hg.below hL hb.size))
def splay (node:Int) (fs:List SFact):Sto:=fs.foldl (fun S f=>(sapply S f).1) ⟨node,0,[],[]⟩
theorem splay_good {node:Int} (h:0≤node∧node≤3) (fs:List SFact):StoGood (splay node fs):=by
 unfold splay;have h0:StoGood ⟨node,0,[],[]⟩:=⟨h,by simp,by simp,by simp,by simp,by simp,by simp,by simp⟩
 revert h0;generalize(⟨node,0,[],[]⟩:Sto)=S
 induction fs generalizing S with
 | nil=>intro h0;exact h0
 | cons f t ih=>intro h0;exact ih _ (sapply_good h0)
structure Built (L:SLoc) (R:RLoc) (S:Sto) (w w':World):Prop where
 st:StoreAt L S w'
 rs:RStoreAt R S w'
 ap:∀k∈L.foot,k∉R.foot
 nl:∀k∈L.foot,w.heap.size≤k
 nr:∀k∈R.foot,w.heap.size≤k
 be:Below w.heap.size w w'
theorem Built.below {L:SLoc} {R:RLoc} {S:Sto} {w w1 w2:World} (h:Built L R S w w1) (hb:Below w1.heap.size w1 w2):Built L R S w w2:=⟨h.st.below hb,h.rs.below hb,h.ap,h.nl,h.nr,below_then h.be hb⟩
structure Half (L:SLoc) (R:RLoc) (S T:Sto) (w w':World):Prop where
 st:StoreAt L T w'
 rs:RStoreAt R S w'
 ap:∀k∈L.foot,k∉R.foot
 nl:∀k∈L.foot,w.heap.size≤k
 nr:∀k∈R.foot,w.heap.size≤k
 be:Below w.heap.size w w'
theorem Built.first {L:SLoc} {R:RLoc} {S T:Sto} {w w1 w2:World} (h:Built L R S w w1) (hs:SGoes L T w1 w2):∃L',L'.sb=L.sb∧Half L' R S T w w2∧w1.heap.size≤w2.heap.size∧(∀k,k<w1.heap.size→k∉L.foot→w2.heap[k]? =w1.heap[k]?):=by
 obtain⟨L',h1,h2,h3⟩:=hs;refine⟨L',h1,⟨h2,h.rs.keep h3.size (h3.keep h.ap h.rs.lt),h3.apart h.ap h.rs.lt,fun k hk=> ?_,h.nr,h.be.trans (h3.below h.nl h.be.size)⟩,h3.size,h3.block⟩;rcases h3.new k hk with e | e
 · exact h.nl k e
 · exact Nat.le_trans h.be.size e
theorem Half.below {L:SLoc} {R:RLoc} {S T:Sto} {w w1 w2:World} (h:Half L R S T w w1) (hb:Below w1.heap.size w1 w2):Half L R S T w w2:=⟨h.st.below hb,h.rs.below hb,h.ap,h.nl,h.nr,below_then h.be hb⟩
theorem Half.second {L:SLoc} {R:RLoc} {S T:Sto} {w w1 w2:World} (h:Half L R S T w w1) (hs:RGoes R T w1 w2):∃R',R'.sb=R.sb∧Built L R' T w w2:=by
 obtain⟨R',h1,h2,h3⟩:=hs;have hap:∀k∈R.foot,k∉L.foot:=fun k hk hl=>h.ap k hl hk
 refine⟨R',h1,h.st.keep h3.size (h3.keep hap h.st.lt),h2,fun k hk hr=>h3.apart hap h.st.lt k hr hk,h.nl,fun k hk=> ?_,h.be.trans (h3.below h.nr h.be.size)⟩;rcases h3.new k hk with e | e
 · exact h.nr k e
 · exact Nat.le_trans h.be.size e
theorem snew_yes (node:Int) (w:World) (h:0≤node∧node≤3):Calls Tryz.prog 19 #[.int .i64 node] w (fun e w'=>e=.returned (.tuple #[.pointer (some ⟨w.heap.size,0,none⟩),.nilIface])∧w'=w.alloc (.cells #[node,.int .i64 0,.slice none 0 0,.slice none 0 0] 154)):=by
 obtain⟨h0,h3⟩:=h;have d1:decide (node<0)=false:=decide_eq_false (by omega);have d2:decide ((4:Int)≤node)=false:=decide_eq_false (by omega);go_enter Tryz.func19,Tryz.ntmps19;go_wp2_with fail;go_ret2;exact⟨rfl,rfl⟩
theorem snew_no (node:Int) (ea:Int→Addr) (w:World) (hE:EnvS ea w) (h:¬(0≤node∧node≤3)):Calls Tryz.prog 19 #[.int .i64 node] w (Makes (.tuple #[.pointer none,errV (ea 1)]) w):=by
 have e1:w.cell? ⟨0,0,none⟩=some (errV (ea 1)):=hE.e.e1;by_cases h0:node<0
 · have d1:decide (node<0)=true:=decide_eq_true h0;clear hE h;go_enter Tryz.func19,Tryz.ntmps19;go_wp2_with fail
   (try go_region)
   all_goals (try go_wp2_with fail)
   all_goals go_ret2
   all_goals exact⟨rfl,by go_grown⟩
 · have d1:decide (node<0)=false:=decide_eq_false h0;have d2:decide ((4:Int)≤node)=true:=decide_eq_true (by omega);clear hE h;go_enter Tryz.func19,Tryz.ntmps19;go_wp2_with fail
   (try go_region)
   all_goals (try go_wp2_with fail)
   all_goals go_ret2
   all_goals exact⟨rfl,by go_grown⟩
structure FrAt (bs:List (Nat×Array Value)) (Q:QLoc) (r:SRes) (w w':World):Prop where
 bl:∀x∈bs,Blk w' x.1 x.2
 ap:∀x∈bs,x.1∉Q.foot
 nd:(bs.map Prod.fst).Nodup
 q:ResAt Q r w'
 nf:∀k∈Q.foot,w.heap.size≤k
 be:Below w.heap.size w w'
theorem FrAt.below {bs:List (Nat×Array Value)} {Q:QLoc} {r:SRes} {w w1 w2:World} (h:FrAt bs Q r w w1) (hb:Below w1.heap.size w1 w2):FrAt bs Q r w w2:=
 ⟨fun x hx=>(h.bl x hx).below hb,h.ap,h.nd,h.q.below hb,h.nf,below_then h.be hb⟩
theorem FrAt.goes {bs:List (Nat×Array Value)} {Q:QLoc} {r r':SRes} {w w1 w2:World} (h:FrAt bs Q r w w1) (hs:QGoes Q r' w1 w2):∃fv mv,FrAt bs ⟨Q.rb,fv,mv⟩ r' w w2:=by
 obtain⟨⟨rb,fv,mv⟩,h1,h2,h3⟩:=hs;dsimp only at h1;subst h1;refine⟨fv,mv,fun x hx=>(h.bl x hx).same h3.size (h3.block _ (h.bl x hx).lt (h.ap x hx)),fun x hx hk=> ?_,h.nd,h2,fun k hk=> ?_,h.be.trans (h3.below h.nf h.be.size)⟩
 · rcases h3.new _ hk with e | e
   · exact h.ap x hx e
   · have:=(h.bl x hx).lt;omega
 · rcases h3.new k hk with e | e
   · exact h.nf k e
   · exact Nat.le_trans h.be.size e
theorem FrAt.set {bs:List (Nat×Array Value)} {b:Nat} {C:Array Value} {Q:QLoc} {r:SRes} {w w1:World} (h:FrAt ((b,C)::bs) Q r w w1) (hb:w.heap.size≤b) (i:Nat) (hi:i<C.size) (v:Value):FrAt ((b,C.set i v hi)::bs) Q r w (w1.setCell ⟨b,i,none⟩ v):=by
 have hn:=h.nd;rw[List.map_cons,List.nodup_cons] at hn;have hap:=h.ap (b,C) (List.mem_cons_self);have hset:∀k,k≠b→(w1.setCell ⟨b,i,none⟩ v).heap[k]? =w1.heap[k]? :=fun k hk=>Below.heap_setCell _ _ _ _ hk
 refine⟨fun x hx=> ?_,fun x hx hk=> ?_,by simpa using hn,⟨h.q.blk.same (by simp) (hset _ (fun e=>hap (QLoc.mem.2 (.inl e.symm)))),row_heap h.q.fs (fun k hk=>hset _ (fun e=>hap (QLoc.mem.2 (.inr (.inl (by rw[hk,e])))))),row_heap h.q.ms (fun k hk=>hset _ (fun e=>hap (QLoc.mem.2 (.inr (.inr (by rw[hk,e])))))),h.q.n1,h.q.n2,h.q.n3⟩,h.nf,h.be.setCell hb _⟩
 · rcases List.mem_cons.1 hx with rfl | hx
   · exact(h.bl (b,C) List.mem_cons_self).set' i hi v
   · exact(h.bl x (List.mem_cons_of_mem _ hx)).same (by simp) (hset _ (fun e=>hn.1 (List.mem_map.2 ⟨x,hx,e⟩)))
 · rcases List.mem_cons.1 hx with rfl | hx
   · exact hap hk
   · exact h.ap x (List.mem_cons_of_mem _ hx) hk
theorem FrAt.wk {bs:List (Nat×Array Value)} {Q:QLoc} {r:SRes} {w w1:World} (h:FrAt bs Q r w w1) (x:Int):FrAt bs Q {r with wk:=x} w (w1.setCell ⟨Q.rb,2,none⟩ (.int .i64 x)):=by
 have hset:∀k,k≠Q.rb→(w1.setCell ⟨Q.rb,2,none⟩ (.int .i64 x)).heap[k]? =w1.heap[k]? :=fun k hk=>Below.heap_setCell _ _ _ _ hk
 refine⟨fun y hy=>(h.bl y hy).same (by simp) (hset _ (fun e=>h.ap y hy (QLoc.mem.2 (.inl e)))),h.ap,h.nd,⟨h.q.blk.set' 2 (by simp) _,row_heap h.q.fs (fun k hk=>hset _ (fun e=>h.q.n1 (by rw[hk,e]))),row_heap h.q.ms (fun k hk=>hset _ (fun e=>h.q.n2 (by rw[hk,e]))),h.q.n1,h.q.n2,h.q.n3⟩,h.nf,h.be.setCell (h.nf _ (QLoc.mem.2 (.inl rfl))) _⟩
theorem FrAt.out {bs:List (Nat×Array Value)} {Q:QLoc} {r:SRes} {w w1 w2:World} (h:FrAt bs Q r w w1) (he:∀k∈Q.foot,w2.heap[k]? =w1.heap[k]?) (hb:Below w.heap.size w w2):w2.ownsRow w.heap.size 39 14 Q.fv r.fs.length (factsL r.fs)∧w2.ownsRow w.heap.size 81 9 Q.mv r.ms.length (msgsL r.ms)∧Below w.heap.size w w2:=
 ⟨row_up (row_heap h.q.fs (fun k hk=>he k (QLoc.mem.2 (.inr (.inl hk))))) (fun k hk=>h.nf k (QLoc.mem.2 (.inr (.inl hk)))),row_up (row_heap h.q.ms (fun k hk=>he k (QLoc.mem.2 (.inr (.inr hk))))) (fun k hk=>h.nf k (QLoc.mem.2 (.inr (.inr hk)))),hb⟩
theorem FrAt.ends {bs : List (Nat × Array Value)} {Q : QLoc} {r : SRes} {w w1 : World} {b : Nat} {C : Array Value} (h : FrAt bs Q r w w1) (hm : (b, C) ∈ bs) (hb : w.heap.size ≤ b) (x y z : Value) :
    (((w1.setCell ⟨b,0,none⟩ x).setCell ⟨b,1,none⟩ y).setCell ⟨b,2,none⟩ z).ownsRow w.heap.size 39 14 Q.fv r.fs.length (factsL r.fs)∧(((w1.setCell ⟨b,0,none⟩ x).setCell ⟨b,1,none⟩ y).setCell ⟨b,2,none⟩ z).ownsRow w.heap.size 81 9 Q.mv r.ms.length (msgsL r.ms)∧Below w.heap.size w (((w1.setCell ⟨b,0,none⟩ x).setCell ⟨b,1,none⟩ y).setCell ⟨b,2,none⟩ z):=
 h.out (fun k hk=>by
   have hk':k≠b:=fun e=>h.ap _ hm (e▸hk)
   rw[Below.heap_setCell _ _ _ _ hk',Below.heap_setCell _ _ _ _ hk',Below.heap_setCell _ _ _ _ hk']) (((h.be.setCell (p:=⟨b,0,none⟩) hb _).setCell (p:=⟨b,1,none⟩) hb _).setCell (p:=⟨b,2,none⟩) hb _)
theorem FrAt.lt {bs:List (Nat×Array Value)} {Q:QLoc} {r:SRes} {w w1:World} (h:FrAt bs Q r w w1):Q.rb<w1.heap.size:=h.q.blk.lt
def MsgC (w:World) (b o:Nat) (m:SMsg):Prop:=w.cell? ⟨b,o,none⟩=some (.int .i64 m.k)∧w.cell? ⟨b,o+1,none⟩=some (.int .i64 m.fr)∧w.cell? ⟨b,o+2,none⟩=some (.int .i64 m.to)∧w.cell? ⟨b,o+3,none⟩=some (.int .i64 m.an)∧w.cell? ⟨b,o+4,none⟩=some (.int .i64 m.aq)∧w.cell? ⟨b,o+5,none⟩=some (.int .i64 m.rg)∧w.cell? ⟨b,o+6,none⟩=some (.int .i64 m.pt)∧w.cell? ⟨b,o+7,none⟩=some (.int .i64 m.pr)∧w.cell? ⟨b,o+8,none⟩=some (.int .i64 m.co)
theorem MsgC.below {w w':World} {b o:Nat} {m:SMsg} (h:MsgC w b o m) (hb:Below w.heap.size w w') (hl:b<w.heap.size):MsgC w' b o m:=
 ⟨(hb.cell (p:=⟨b,o,none⟩) hl).trans h.1,(hb.cell (p:=⟨b,o+1,none⟩) hl).trans h.2.1,(hb.cell (p:=⟨b,o+2,none⟩) hl).trans h.2.2.1,(hb.cell (p:=⟨b,o+3,none⟩) hl).trans h.2.2.2.1,(hb.cell (p:=⟨b,o+4,none⟩) hl).trans h.2.2.2.2.1,(hb.cell (p:=⟨b,o+5,none⟩) hl).trans h.2.2.2.2.2.1,(hb.cell (p:=⟨b,o+6,none⟩) hl).trans h.2.2.2.2.2.2.1,(hb.cell (p:=⟨b,o+7,none⟩) hl).trans h.2.2.2.2.2.2.2.1,(hb.cell (p:=⟨b,o+8,none⟩) hl).trans h.2.2.2.2.2.2.2.2⟩
def ReadMsgs (w:World) (v:Value) (ms:List SMsg):Prop:=∃a cap,v=.slice a ms.length cap∧(ms≠[]→∃b off,a=some ⟨b,off,none⟩∧b<w.heap.size∧∀(j:Nat) (h:j<ms.length),MsgC w b (off+j*9) ms[j])
theorem ReadMsgs.below {w w':World} {v:Value} {ms:List SMsg} (h:ReadMsgs w v ms) (hb:Below w.heap.size w w'):ReadMsgs w' v ms:=by
 obtain⟨a,cap,hv,hr⟩:=h;refine⟨a,cap,hv,fun hn=> ?_⟩;obtain⟨b,off,ha,hl,hc⟩:=hr hn;exact⟨b,off,ha,Nat.lt_of_lt_of_le hl hb.size,fun j hj=>(hc j hj).below hb hl⟩
theorem ReadFacts.below {w w':World} {v:Value} {fs:List SFact} (h:ReadFacts w v fs) (hb:Below w.heap.size w w'):ReadFacts w' v fs:=by
 obtain⟨a,cap,hv,hr⟩:=h;refine⟨a,cap,hv,fun hn=> ?_⟩;obtain⟨b,off,ha,hl,hc⟩:=hr hn;exact⟨b,off,ha,Nat.lt_of_lt_of_le hl hb.size,fun j hj=>(hc j hj).below hb hl⟩
theorem rpart_at {R:RLoc} {S:Sto} {w:World} {pt:Int} {p:SPart} (h:RStoreAt R S w) (hl:S.parts.length≤8) (hp:pGet S pt=some p):∃i n g cap:Nat,pt=(i:Int)∧i<n∧n≤8∧n=S.parts.length∧w.cell? ⟨R.sb,3,none⟩=some (.slice (some ⟨g,0,none⟩) n cap)∧R.sb<w.heap.size∧g<w.heap.size∧PartC w g (i*7) p:=by
 obtain⟨h0,h1,h2,_⟩:=pGet_some hp;obtain⟨i,rfl⟩:∃i:Nat,pt=i:=⟨pt.toNat,by omega⟩
 rw[Int.toNat_natCast] at h1 h2;obtain⟨a,cap,hv,hn,hrow⟩:=part_row h.parts;obtain⟨g,rfl,hg,hfz,hcell⟩:=hrow (by omega);exact⟨i,S.parts.length,g,cap,rfl,h1,hl,rfl,by rw[←hv];exact h.blk.cell 3,h.blk.lt,hg,hcell i p h2⟩
theorem rright05_of (n q:Int) (w:World):Calls Tryz.prog 197 #[.agg #[n,q]] w (Makes (.bool (idOk n q)) w):=by
 unfold idOk;by_cases h1:0≤n
 · by_cases h2:n≤3
   · have h2':n<4:=by omega
     by_cases h3:0≤q
     · by_cases h4:q≤999999
       · have h4':q<1000000:=by omega
         rw[decide_eq_true ⟨h1,h2,h3,h4⟩];go_enter Tryz.func197,Tryz.ntmps197;go_wp2_with fail;go_ret;exact⟨rfl,by go_grown⟩
       · have h4':¬q<1000000:=by omega
         rw[decide_eq_false (fun h=>h4 h.2.2.2)];go_enter Tryz.func197,Tryz.ntmps197;go_wp2_with fail;go_ret;exact⟨rfl,by go_grown⟩
     · rw[decide_eq_false (fun h=>h3 h.2.2.1)];go_enter Tryz.func197,Tryz.ntmps197;go_wp2_with fail;go_ret;exact⟨rfl,by go_grown⟩
   · have h2':¬n<4:=by omega
     rw[decide_eq_false (fun h=>h2 h.2.1)];go_enter Tryz.func197,Tryz.ntmps197;go_wp2_with fail;go_ret;exact⟨rfl,by go_grown⟩
 · rw[decide_eq_false (fun h=>h1 h.1)];go_enter Tryz.func197,Tryz.ntmps197;go_wp2_with fail;go_ret;exact⟨rfl,by go_grown⟩
theorem rstate_of (s h:Int) (w:World):Calls Tryz.prog 198 #[.int .i64 s,.int .i64 h] w (Gives (.bool (stOk s h)) w):=by
 unfold stOk;by_cases h1:s=14
 · rw[if_pos h1];have e1:(s==14)=true:=by simpa using h1
   by_cases h2:h=1
   · have e2:(h==1)=true:=by simpa using h2
     rw[decide_eq_true (Or.inl h2)];clear h1 h2;go_enter Tryz.func198,Tryz.ntmps198;go_wp2_with fail;go_ret;exact⟨rfl,rfl⟩
   · have e2:(h==1)=false:=by simpa using h2
     have hd:decide (h=1∨4≤h∧h≤8)=decide (4≤h∧h≤8):=decide_eq_decide.2 ⟨fun x=>x.resolve_left h2,Or.inr⟩;rw[hd];clear h1 h2 hd;by_cases h3:4≤h
     · by_cases h4:h≤8
       · rw[decide_eq_true ⟨h3,h4⟩];go_enter Tryz.func198,Tryz.ntmps198;go_wp2_with fail;go_ret;exact⟨rfl,rfl⟩
       · rw[decide_eq_false (fun x=>h4 x.2)];go_enter Tryz.func198,Tryz.ntmps198;go_wp2_with fail;go_ret;exact⟨rfl,rfl⟩
     · rw[decide_eq_false (fun x=>h3 x.1)];go_enter Tryz.func198,Tryz.ntmps198;go_wp2_with fail;go_ret;exact⟨rfl,rfl⟩
 · rw[if_neg h1];have e1:(s==14)=false:=by simpa using h1
   clear h1;by_cases h2:1≤s
   · by_cases h3:s≤13
     · have e2:(h==0)=decide (h=0):=by by_cases h0:h=0<;>simp[h0]
       rw[show decide (1≤s∧s≤13∧h=0)=decide (h=0) from decide_eq_decide.2 ⟨fun x=>x.2.2,fun x=>⟨h2,h3,x⟩⟩];generalize decide (h=0)=d at*;go_enter Tryz.func198,Tryz.ntmps198;go_wp2_with fail;go_ret;exact⟨rfl,rfl⟩
     · rw[decide_eq_false (fun x=>h3 x.2.1)];go_enter Tryz.func198,Tryz.ntmps198;go_wp2_with fail;go_ret;exact⟨rfl,rfl⟩
   · rw[decide_eq_false (fun x=>h2 x.1)];go_enter Tryz.func198,Tryz.ntmps198;go_wp2_with fail;go_ret;exact⟨rfl,rfl⟩
def fnums (f:SFact):List Int:=[f.k,f.an,f.aq,f.rg,f.nd,f.pt,f.pr,f.oc,f.dp,f.pa,f.st,f.hw,f.de]
theorem numbers_of (f:SFact) (w:World):Calls Tryz.prog 119 #[factV f] w (fun e w'=>∃g,e=.returned (.slice (some ⟨g,0,none⟩) 13 13)∧Blk w' g #[f.k,f.an,f.aq,f.rg,f.nd,f.pt,f.pr,f.oc,f.dp,f.pa,f.st,f.hw,f.de]∧Below w.heap.size w w'):=by
 obtain⟨k,an,aq,rg,nd,pt,pr,oc,dp,pa,st,hw,de,ex⟩:=f;dsimp only[factV,factC];go_enter Tryz.func119,Tryz.ntmps119;go_wp2_with fail;go_ret;exact⟨w.heap.size+1,rfl,Blk.fresh _ _ _ _ (by simp),by go_grown⟩
end Go.Proofs.YtlkajejbfojkeaaGreatDoor
