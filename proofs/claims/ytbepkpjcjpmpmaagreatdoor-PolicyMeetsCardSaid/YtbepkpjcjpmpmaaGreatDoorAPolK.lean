/- PolK -/
import Derived.Test.YtbepkpjcjpmpmaaGreatDoorAPolHToPolS
set_option linter.unusedSimpArgs false
set_option linter.unusedVariables false
set_option maxRecDepth 100000
set_option maxHeartbeats 16000000
namespace Go.Proofs.YtbepkpjcjpmpmaaGreatDoor
open Go.RowKit Go.Shelf
def NormEnds (q:Option (List PAlt)) (ea:Int→Addr) (w:World) (e:Ending) (w':World):Prop:=
 (∀l,q=some l→∃v,e=.returned v∧AltsV 71 w.heap.size w' v l∧Below w.heap.size w w')∧(q=none→e=.panicked [{v:=errV (ea 6),recovered:=false}]∧Below w.heap.size w w')
theorem str_row (w:World) (nm:PStr) (B n:Nat) (hn:n=w.heap.size) (hB:B≤n):AltV B (w.alloc (.cells #[encStr nm] 9)) (.slice (some ⟨n,0,none⟩) 1 1) [nm]:=by
 subst hn;exact row_base (lit_row w (encStr nm) _) hB
theorem alts_one {w:World} {x:Value} {s:PAlt} {B n:Nat} (hn:n=w.heap.size) (hB:B≤n) (hx:AltV B w x s):AltsV 71 B (w.alloc (.cells #[x] 71)) (.slice (some ⟨n,0,none⟩) 1 1) [s]:=by
 subst hn;refine⟨#[x],row_base (lit_row w x _) hB,rfl,fun i hi=> ?_⟩;obtain rfl:i=0:=by simp at hi;omega
 exact row_al hx _
theorem lit_row2 (w:World) (x y:Value) (T:TypeId):(w.alloc (.cells #[x,y] T)).ownsRow w.heap.size T 1 (.slice (some ⟨w.heap.size,0,none⟩) 2 2) 2 [x,y]:=
 ⟨rfl,.inr ⟨w.heap.size,2,#[x,y],rfl,Nat.le_refl _,hp_new _ rfl,Nat.le_refl _,by unfold maxLen;omega,rfl,rfl⟩⟩
theorem alts_two {w:World} {x y:Value} {s t:PAlt} {B n:Nat} (hn:n=w.heap.size) (hB:B≤n) (hx:AltV B w x s) (hy:AltV B w y t):AltsV 71 B (w.alloc (.cells #[x,y] 71)) (.slice (some ⟨n,0,none⟩) 2 2) [s,t]:=by
 subst hn;refine⟨#[x,y],row_base (lit_row2 w x y _) hB,rfl,fun i hi=> ?_⟩;have:i=0∨i=1:=by simp at hi;omega
 rcases this with rfl | rfl
 · exact row_al hx _
 · exact row_al hy _
theorem alts_cells {B:Nat} {w:World} {vs:Array Value} {d:Array PAlt} (h:Alts B w vs d):∀u∈vs.toList,u.oneCell'=true:=fun u hu=>by
 obtain⟨i,hi,rfl⟩:=List.getElem_of_mem hu;have hi':i<vs.size:=by simpa using hi
 have hx:=h.2 i (by rw[←h.1];exact hi');rw[getElem!_pos vs i hi'] at hx;obtain⟨a,c,e⟩:=row_slice hx;have:vs.toList[i]=vs[i]:=by simp
 rw[this,e];rfl
theorem alts_app {T : TypeId} (hT : T ≠ 9) {w w1 : World} {B : Nat} {v v' : Value} {o l : List PAlt} {vs vs2 : Array Value} (hrow : w.ownsRow B T 1 v o.length vs.toList) (hA : Alts B w vs o.toArray) (hA2 : Alts B w vs2 l.toArray) (hg : w.grownBy w1 v.ownBlock)
    (hown:w1.ownsRow B T 1 v' (o.length+l.length) (vs.toList ++vs2.toList)):AltsV T B w1 v' (o ++l):=by
 have hsz:vs.size=o.length:=by have:=hA.1;simpa using this
 have hsz2:vs2.size=l.length:=by have:=hA2.1;simpa using this
 refine⟨(vs.toList ++vs2.toList).toArray,by rw[List.length_append];exact hown,by simp[hsz,hsz2],fun i hi=> ?_⟩;have hi':i<o.length+l.length:=by simpa using hi
 by_cases h:i<o.length
 · have e1:(vs.toList ++vs2.toList).toArray[i]! =vs[i]! :=by
    rw[getElem!_pos _ i (by simp;omega),getElem!_pos vs i (by omega)];simp[List.getElem_append,hsz,h]
   have e2:(o ++l).toArray[i]! =o.toArray[i]! :=by
    rw[getElem!_pos _ i (by simp;omega),getElem!_pos o.toArray i (by simpa using h)];simp[List.getElem_append,h]
   rw[e1,e2];exact alt_gro hT (hA.2 i (by simpa using h)) hg hrow
 · have e1:(vs.toList ++vs2.toList).toArray[i]! =vs2[i - o.length]! :=by
    rw[getElem!_pos _ i (by simp;omega),getElem!_pos vs2 _ (by omega)];simp[List.getElem_append,hsz,h]
   have e2:(o ++l).toArray[i]! =l.toArray[i - o.length]! :=by
    rw[getElem!_pos _ i (by simp;omega),getElem!_pos l.toArray _ (by simp;omega)];simp[List.getElem_append,h]
   rw[e1,e2];exact alt_gro hT (hA2.2 _ (by simp;omega)) hg hrow
theorem normal_go (g : Nat) : ∀ (e : PE) (a : Option Addr) (c : Nat) (B E : Nat) (ea : Int → Addr) (w : World), e.kids.sz < g → g ≤ 250 → KC B E w e.kids a → E ≤ w.heap.size → Errs ea w →
    Calls Tryz.prog 31 #[.agg #[e.op,.string ⟨e.nm.toArray⟩,.bool e.opt,.slice a e.kids.len c]] w (NormEnds (pNorm e) ea w):=by
 induction g with
 | zero=>intro e a c B E ea w hg;omega
 | succ g ih=>
  rintro⟨OP,nm,opt,kids⟩ a c B E ea w hg hg2 hK hE hEA;dsimp only at hg hK⊢;obtain⟨i0,ei,ez,es,eb⟩:=info_parts infoAlt;have IH:=qq ih;have HEA:=qq hEA;have HKC:=qq (fun W (hW:Below w.heap.size w W)=>hK.below hE hW);have HG:=qq hg;obtain⟨n,hn⟩:∃n,n=kids.len:=⟨_,rfl⟩
  have HN:=qq hn;have hnsz:n≤250:=by have:=PF.len_sz kids;omega
  rw[←hn];have HYES:Hid (∀l v w',pNorm ⟨OP,nm,opt,kids⟩=some l→AltsV 71 w.heap.size w' v l→Below w.heap.size w w'→NormEnds (pNorm ⟨OP,nm,opt,kids⟩) ea w (.returned v) w'):=qq (fun l v w' h1 h2 h3=>⟨fun l2 h4=>(by rw[h1] at h4;injection h4 with h4;subst h4;exact⟨v,rfl,h2,h3⟩),fun h4=>(by rw[h1] at h4;cases h4)⟩)
  have HNO:Hid (∀w',pNorm ⟨OP,nm,opt,kids⟩=none→Below w.heap.size w w'→NormEnds (pNorm ⟨OP,nm,opt,kids⟩) ea w (.panicked [{v:=errV (ea 6),recovered:=false}]) w'):=qq (fun w' h1 h3=>⟨fun l2 h4=>(by rw[h1] at h4;cases h4),fun _=>⟨rfl,h3⟩⟩);generalize NormEnds (pNorm ⟨OP,nm,opt,kids⟩) ea w=R at HYES HNO⊢;have KB:=qq (Blk.fresh w #[OP,.string ⟨nm.toArray⟩,.bool opt,.slice a n c] 27 _ rfl)
  have HB0:Hid (Below w.heap.size w (w.alloc (.cells #[OP,.string ⟨nm.toArray⟩,.bool opt,.slice a n c] 27))):=qq ((Below.refl _ _).alloc (Nat.le_refl _) _);have hne:71≠9:=by decide
  have HNE:=qq hne;clear hK hEA hg ih hn hne;go_enter Tryz.func31,Tryz.ntmps31;by_cases h1:OP=1
  · subst h1;obtain⟨l0,q0,f0⟩:=KB.out
    cases opt with
    | false=>
     go_wp2_with fail
     (try go_ret)
     exact HYES.out [[nm]] (.slice (some ⟨w.heap.size+1+1,0,none⟩) 1 1) _ rfl (alts_one (by simp) (by omega) (str_row _ nm _ _ (by simp) (by omega))) (bel_alloc (bel_alloc (bel_alloc (Below.refl _ _) _) _) _)
    | true=>
     go_wp2_with fail
     (try go_ret)
     exact HYES.out [[],[nm]] (.slice (some ⟨w.heap.size+1+1+1+1,0,none⟩) 2 2) _ rfl (alts_two (by simp) (by omega) (World.ownsRow_nil _ _ _ _) (str_row _ nm _ _ (by simp) (by omega))) (bel_alloc (bel_alloc (bel_alloc (bel_alloc (bel_alloc (Below.refl _ _) _) _) _) _) _)
  · have h1b:(OP==1)=false:=by simpa using h1
    have H1:=qq h1;by_cases h2:OP=2
    · subst h2;have HST:Hid (NState 2 kids 0 [[]] [[]]):=qq (NState.start 2 kids);have H3:Hid ((2:Int)≠3):=qq (by decide)
      have HA0:Hid (AltsV 71 (w.alloc (.cells #[.int .i64 2,.string ⟨nm.toArray⟩,.bool opt,.slice a n c] 27)).heap.size ((w.alloc (.cells #[.int .i64 2,.string ⟨nm.toArray⟩,.bool opt,.slice a n c] 27)).alloc (.cells #[.slice none 0 0] 71)) (.slice (some ⟨w.heap.size+1,0,none⟩) 1 1) [[]]):=qq (alts_one (by simp) (by simp) (World.ownsRow_nil _ _ _ _))
      have HB1:Hid (Below (w.alloc (.cells #[.int .i64 2,.string ⟨nm.toArray⟩,.bool opt,.slice a n c] 27)).heap.size (w.alloc (.cells #[.int .i64 2,.string ⟨nm.toArray⟩,.bool opt,.slice a n c] 27)) ((w.alloc (.cells #[.int .i64 2,.string ⟨nm.toArray⟩,.bool opt,.slice a n c] 27)).alloc (.cells #[.slice none 0 0] 71))):=qq (bel_alloc (Below.refl _ _) _);obtain⟨l0,q0,f0⟩:=KB.out;go_wp2_with fail
      clear l0 q0 f0
      go_loopw [4,28] (fun ov cc wr=>∃(i:Nat) (acc raw:List PAlt),i≤n∧cc=.int .i64 (i:Int)∧Hid (NState 2 kids i acc raw)∧Hid (AltsV 71 (w.alloc (.cells #[.int .i64 2,.string ⟨nm.toArray⟩,.bool opt,.slice a n c] 27)).heap.size wr ov raw)∧Hid (Below (w.alloc (.cells #[.int .i64 2,.string ⟨nm.toArray⟩,.bool opt,.slice a n c] 27)).heap.size (w.alloc (.cells #[.int .i64 2,.string ⟨nm.toArray⟩,.bool opt,.slice a n c] 27)) wr)) (fun _ cc _=>n - (intOf cc).toNat)
      case atStart=>exact⟨0,[[]],[[]],by omega,by first | rfl | go_num,HST,HA0,HB1⟩
      case round=>
       obtain⟨i,acc,raw,hi,rfl,HS,HO,HB⟩:=hrel;have hi0:(0:Int)≤(i:Int):=by omega
       obtain⟨m,hm⟩:∃m,m=raw.length:=⟨_,rfl⟩
       obtain⟨ao,co,ho⟩:=HO.out.row;rw[←hm] at ho;subst ho;have HM:=qq hm;have hwr:=HB.out.size;have HBW:=qq (below_then HB0.out HB.out);have hsz1:(w.alloc (.cells #[.int .i64 2,.string ⟨nm.toArray⟩,.bool opt,.slice a n c] 27)).heap.size=w.heap.size+1:=by simp
       rw[hsz1] at hwr;clear hm;by_cases hlt:i<n
       · have hi1:(i:Int)<(n:Int):=by omega
         obtain⟨k,hk⟩:=PF.at_lt kids i (by rw[←HN.out];exact hlt);have hne:kids≠.nil:=by rintro rfl;cases hk
         obtain⟨b,o,rfl,hbB,hbE,hkt⟩:=HKC.out _ HBW.out hne;obtain⟨c0,c1,c2,ka,kc,c3,hkk⟩:=KT.at kids i k b o hk hkt;have hbw:b<wr.heap.size:=by omega
         have hksz:=PF.at_sz kids i k hk;have HK:=qq hk;obtain⟨nk,hnk⟩:∃x,x=k.kids.len:=⟨_,rfl⟩
         have HCK:=qq (fun W (hb:Below wr.heap.size wr W)=>IH.out k ka kc B E ea W (by have:=HG.out;omega) (by omega) (hkk.below (by omega) hb) (by have:=hb.size;omega) (HEA.out.below (below_then HBW.out hb)));rw[←hnk] at c3;rw[←hnk] at HCK;simp only[encStr] at c1;obtain⟨kop,knm,kopt,kkids⟩:=k;dsimp only at c0 c1 c2 c3 HCK;clear hne hkt hkk hnk hk hksz
         have hT:(wr.alloc (.cells #[.int .i64 0,.string ⟨#[]⟩,.bool false,.slice none 0 0] 27)).heap[wr.heap.size]? =some (.cells #[.int .i64 0,.string ⟨#[]⟩,.bool false,.slice none 0 0] 27 (0,0)):=hp_new _ rfl
         go_wp2_with (refine row_go 27 (.tmp 6) (.tmp 31) rfl rfl (wr.heap.size) #[.int .i64 kop,.string ⟨knm.toArray⟩,.bool kopt,.slice ka nk kc] #[.int .i64 0,.string ⟨#[]⟩,.bool false,.slice none 0 0] 27 hT rfl rfl (by kernel_rfl) rfl (by simp[Value.oneCell']) ?_);intro w2 hk2 hg2;have HB2:=qq (bel_gr ((Below.refl wr.heap.size wr).alloc (Nat.le_refl _) _) hg2 (Nat.le_refl _))
         have HO2:=qq (HO.out.below HB2.out);have HBX:=qq (below_then HB.out HB2.out);have HKB:=qq (KB.out.below HBX.out);have HK2:=qq hk2;clear hT c0 c1 c2 c3 hk2 hg2;obtain⟨lb,qb,fb⟩:=HKB.out;obtain⟨lk,qk,fk⟩:=HK2.out;go_wp2_with fail;refine(HCK.out _ HB2.out).mono ?_;rintro e w5 ⟨hyes,hno⟩
         cases hpc:pNorm ⟨kop,knm,kopt,kkids⟩ with
         | none=>
          obtain⟨rfl,hb5⟩:=hno hpc;have hfin:=HNO.out w5 (HS.out.none_kid H1.out HK.out hpc) (below_then (below_then HBW.out HB2.out) hb5);clear hyes hno hpc;exact⟨rfl,hfin⟩
         | some l=>
          obtain⟨v5,rfl,hl5,hb5⟩:=hyes l hpc;have HPC:=qq hpc;have HL5:=qq hl5;have HB5:=qq (below_then HBX.out hb5);have HO5:=qq (HO2.out.below hb5);obtain⟨hlok,hl64⟩:=pNorm_ok hpc;have HLOK:=qq hlok;obtain⟨a5,c5,rfl⟩:=hl5.row;obtain⟨n5,hn5⟩:∃x,x=l.length:=⟨_,rfl⟩
          rw[←hn5] at HL5 hl64⊢;have HN5:=qq hn5;clear hyes hno hpc hl5 hb5 hlok hn5 lb qb fb lk qk fk
          have HEC:=qq (each_of _ w2.heap.size (.slice ao m co) (.slice a5 n5 c5) raw l w5 HO5.out HL5.out (by have:=HS.out.len H3.out;omega) (by have:=HN5.out;omega) (fun a ha=>by have:=HS.out.one a ha;have:=HG.out;omega) (fun a ha=>by have:=(HLOK.out.one a ha).2;have:=PF.at_sz kids i _ HK.out;have:=HG.out;dsimp only at *;omega));go_wp2_with fail;refine HEC.out.mono ?_
          rintro e w6 ⟨v6,rfl,hv6,hb6⟩;have HB6:=qq (below_then HB5.out hb6);have HSO:=qq (sorted_of _ v6 (pEach raw l) ea _ w6 (hv6.base HB5.out.size) (by
            rw[each_len];have h1:raw.length*l.length≤64*64:=Nat.mul_le_mul (HS.out.len H3.out) (by have:=HN5.out;omega);omega) (fun a ha=>by
              have h1:=(each_mem (m:=250) (k:=250) (fun x hx=>by have:=HS.out.one x hx;have:=HG.out;omega) (fun x hx=>by have:=(HLOK.out.one x hx).2;have:=PF.at_sz kids i _ HK.out;have:=HG.out;dsimp only at *;omega) a ha).2;omega) (HEA.out.below HB0.out) HB6.out (Nat.le_refl _))
          obtain⟨a6,c6,rfl⟩:=hv6.row;clear hv6 hb6 HEC;generalize(pEach raw l).length=n6 at*;go_wp2_with fail;refine HSO.out.mono ?_;rintro e w7 ⟨hyes,hno⟩;by_cases h64:(uni ltA [] (pEach raw l)).length≤64
          · obtain⟨v7,rfl,hl7,hb7⟩:=hyes h64;have HST2:=qq (HS.out.all_step H3.out HK.out HPC.out h64);have HL7:=qq hl7;have HB7:=qq hb7;obtain⟨a7,c7,rfl⟩:=hl7.row;clear hyes hno hl7 hb7 h64;generalize(uni ltA [] (pEach raw l)).length=n7 at*;go_wp2_with fail;go_roundw
            case rel=>exact⟨i+1,_,_,by omega,by go_num,HST2,HL7,HB7⟩
            case measure=>simp[intOf];omega
          · obtain⟨rfl,hb7⟩:=hno (by omega);have hfin:=HNO.out w7 (HS.out.none_all H1.out H3.out HK.out HPC.out (by omega)) (below_then HB0.out hb7);clear hyes hno h64;exact⟨rfl,hfin⟩
       · obtain rfl:n=i:=by omega
         have HO2:=qq HO.out;have HSO:=qq (sorted_of (w.alloc (.cells #[.int .i64 2,.string ⟨nm.toArray⟩,.bool opt,.slice a n c] 27)).heap.size (.slice ao m co) raw ea (w.alloc (.cells #[.int .i64 2,.string ⟨nm.toArray⟩,.bool opt,.slice a n c] 27)) wr HO.out (by have:=HS.out.len H3.out;omega) (fun a ha=>by have:=HS.out.one a ha;have:=HG.out;omega) (HEA.out.below HB0.out) HB.out (Nat.le_refl _))
         have HD:=qq (NState.done (nm:=nm) (opt:=opt) H1.out (by have:=HS.out;rw[HN.out] at this;exact this));clear HO HO2;go_wp2_with fail;refine HSO.out.mono ?_;rintro e w5 ⟨hyes,hno⟩;by_cases h64:(uni ltA [] raw).length≤64
         · obtain⟨v5,rfl,hl5,hb5⟩:=hyes h64;have hp:=HD.out;rw[if_pos h64] at hp;have HFIN:=qq (HYES.out _ v5 w5 hp (hl5.base (by simp)) (below_then HB0.out hb5));obtain⟨a5,c5,rfl⟩:=hl5.row;clear hyes hno hl5 hb5 hp h64;generalize(uni ltA [] raw).length=n5 at*;go_wp2_with fail
           (try go_ret)
           exact HFIN.out
         · obtain⟨rfl,hb5⟩:=hno (by omega);have hp:=HD.out;rw[if_neg h64] at hp;exact⟨rfl,HNO.out w5 hp (below_then HB0.out hb5)⟩
    · have h2b:(OP==2)=false:=by simpa using h2
      have HST:Hid (NState OP kids 0 [] []):=qq (by have:=NState.start OP kids;rwa[if_neg h2] at this);by_cases h3:OP=3
      · subst h3;obtain⟨l0,q0,f0⟩:=KB.out;have HA0:Hid (AltsV 71 (w.alloc (.cells #[.int .i64 3,.string ⟨nm.toArray⟩,.bool opt,.slice a n c] 27)).heap.size (w.alloc (.cells #[.int .i64 3,.string ⟨nm.toArray⟩,.bool opt,.slice a n c] 27)) (.slice none 0 0) []):=qq (AltsV.nil _ _ _)
        have HB1:Hid (Below (w.alloc (.cells #[.int .i64 3,.string ⟨nm.toArray⟩,.bool opt,.slice a n c] 27)).heap.size (w.alloc (.cells #[.int .i64 3,.string ⟨nm.toArray⟩,.bool opt,.slice a n c] 27)) (w.alloc (.cells #[.int .i64 3,.string ⟨nm.toArray⟩,.bool opt,.slice a n c] 27))):=qq (Below.refl _ _);go_wp2_with fail;clear l0 q0 f0
        go_loopw [4,28] (fun ov cc wr=>∃(i:Nat) (acc raw:List PAlt),i≤n∧cc=.int .i64 (i:Int)∧Hid (NState 3 kids i acc raw)∧Hid (AltsV 71 (w.alloc (.cells #[.int .i64 3,.string ⟨nm.toArray⟩,.bool opt,.slice a n c] 27)).heap.size wr ov raw)∧Hid (Below (w.alloc (.cells #[.int .i64 3,.string ⟨nm.toArray⟩,.bool opt,.slice a n c] 27)).heap.size (w.alloc (.cells #[.int .i64 3,.string ⟨nm.toArray⟩,.bool opt,.slice a n c] 27)) wr)) (fun _ cc _=>n - (intOf cc).toNat)
        case atStart=>exact⟨0,[],[],by omega,by first | rfl | go_num,HST,HA0,HB1⟩
        case round=>
         obtain⟨i,acc,raw,hi,rfl,HS,HO,HB⟩:=hrel;have hi0:(0:Int)≤(i:Int):=by omega
         obtain⟨m,hm⟩:∃m,m=raw.length:=⟨_,rfl⟩
         obtain⟨ao,co,ho⟩:=HO.out.row;rw[←hm] at ho;subst ho;have HM:=qq hm;have hwr:=HB.out.size;have HBW:=qq (below_then HB0.out HB.out);have hsz1:(w.alloc (.cells #[.int .i64 3,.string ⟨nm.toArray⟩,.bool opt,.slice a n c] 27)).heap.size=w.heap.size+1:=by simp
         rw[hsz1] at hwr;clear hm;by_cases hlt:i<n
         · have hi1:(i:Int)<(n:Int):=by omega
           obtain⟨k,hk⟩:=PF.at_lt kids i (by rw[←HN.out];exact hlt);have hne:kids≠.nil:=by rintro rfl;cases hk
           obtain⟨b,o,rfl,hbB,hbE,hkt⟩:=HKC.out _ HBW.out hne;obtain⟨c0,c1,c2,ka,kc,c3,hkk⟩:=KT.at kids i k b o hk hkt;have hbw:b<wr.heap.size:=by omega
           have hksz:=PF.at_sz kids i k hk;have HK:=qq hk;obtain⟨nk,hnk⟩:∃x,x=k.kids.len:=⟨_,rfl⟩
           have HCK:=qq (fun W (hb:Below wr.heap.size wr W)=>IH.out k ka kc B E ea W (by have:=HG.out;omega) (by omega) (hkk.below (by omega) hb) (by have:=hb.size;omega) (HEA.out.below (below_then HBW.out hb)));rw[←hnk] at c3;rw[←hnk] at HCK;simp only[encStr] at c1;obtain⟨kop,knm,kopt,kkids⟩:=k;dsimp only at c0 c1 c2 c3 HCK;clear hne hkt hkk hnk hk hksz
           have hT:(wr.alloc (.cells #[.int .i64 0,.string ⟨#[]⟩,.bool false,.slice none 0 0] 27)).heap[wr.heap.size]? =some (.cells #[.int .i64 0,.string ⟨#[]⟩,.bool false,.slice none 0 0] 27 (0,0)):=hp_new _ rfl
           go_wp2_with (refine row_go 27 (.tmp 6) (.tmp 31) rfl rfl (wr.heap.size) #[.int .i64 kop,.string ⟨knm.toArray⟩,.bool kopt,.slice ka nk kc] #[.int .i64 0,.string ⟨#[]⟩,.bool false,.slice none 0 0] 27 hT rfl rfl (by kernel_rfl) rfl (by simp[Value.oneCell']) ?_);intro w2 hk2 hg2;have HB2:=qq (bel_gr ((Below.refl wr.heap.size wr).alloc (Nat.le_refl _) _) hg2 (Nat.le_refl _))
           have HO2:=qq (HO.out.below HB2.out);have HBX:=qq (below_then HB.out HB2.out);have HKB:=qq (KB.out.below HBX.out);have HK2:=qq hk2;clear hT c0 c1 c2 c3 hk2 hg2;obtain⟨lb,qb,fb⟩:=HKB.out;obtain⟨lk,qk,fk⟩:=HK2.out;go_wp2_with fail;refine(HCK.out _ HB2.out).mono ?_;rintro e w5 ⟨hyes,hno⟩
           cases hpc:pNorm ⟨kop,knm,kopt,kkids⟩ with
           | none=>
            obtain⟨rfl,hb5⟩:=hno hpc;have hfin:=HNO.out w5 (HS.out.none_kid H1.out HK.out hpc) (below_then (below_then HBW.out HB2.out) hb5);clear hyes hno hpc;exact⟨rfl,hfin⟩
           | some l=>
            obtain⟨v5,rfl,hl5,hb5⟩:=hyes l hpc;have HPC:=qq hpc;have HL5:=qq hl5;have HB5:=qq (below_then HBX.out hb5);have HO5:=qq (HO2.out.below hb5);obtain⟨hlok,hl64⟩:=pNorm_ok hpc;have HLOK:=qq hlok;obtain⟨a5,c5,rfl⟩:=hl5.row;obtain⟨n5,hn5⟩:∃x,x=l.length:=⟨_,rfl⟩
            rw[←hn5] at HL5 hl64⊢;have HN5:=qq hn5;clear hyes hno hpc hl5 hb5 hlok hn5 lb qb fb lk qk fk;obtain⟨vs,hrow,hAl⟩:=HO5.out;obtain⟨vs2,hrow2,hAl2⟩:=HL5.out;have HR4:=qq hrow;rw[←HM.out] at hrow;rw[←HN5.out] at hrow2;have HROW:=qq hrow;have HROW2:=qq hrow2;have HAL:=qq hAl;have HAL2:=qq (hAl2.base (Nat.le_trans (Nat.le_of_eq hsz1) (by have:=HB2.out.size;omega)))
            have hmm:m≤16000:=by have:=HS.out.few rfl;rw[←HM.out] at this;omega
            clear hrow hrow2 hAl hAl2;go_wp2_with (at_builtin;refine wpList_append_rows rfl _ _ 69 rfl _ 71 i0 (.slice none 0 0) 1 24 Tryz.underlying69 ei ez es eb rfl (by decide) _ _ _ rfl HROW.out w2.heap.size _ _ _ rfl HROW2.out (alts_cells HAL2.out) ?c1 ?c2 ?c3 ?_)
            case c1=>unfold maxLen;omega
            case c2=>omega
            case c3=>exact HB5.out.size
            intro v6 w6 hown hgrow hat;have HB6:=qq (HB5.out.grown hgrow HB5.out.size (fun q hq=>(HROW.out.lt q hq).1));have HFIN:=qq (alts_app (v':=v6) (w1:=w6) HNE.out HR4.out HAL.out HAL2.out hgrow (by rw[←HM.out,←HN5.out];first | exact hown | (rw[hsz1];exact hown)));have HST2:=qq (HS.out.one_step HK.out HPC.out);obtain⟨a6,c6,rfl⟩:=row_slice hown;clear hown hgrow hat;go_wp2_with fail;go_roundw
            case rel=>exact⟨i+1,_,_,by omega,by go_num,HST2,HFIN,HB6⟩
            case measure=>simp[intOf];omega
         · obtain rfl:n=i:=by omega
           have HO2:=qq HO.out;have HSO:=qq (sorted_of (w.alloc (.cells #[.int .i64 3,.string ⟨nm.toArray⟩,.bool opt,.slice a n c] 27)).heap.size (.slice ao m co) raw ea (w.alloc (.cells #[.int .i64 3,.string ⟨nm.toArray⟩,.bool opt,.slice a n c] 27)) wr HO.out (by have:=HS.out.few rfl;omega) (fun a ha=>by have:=HS.out.one a ha;have:=HG.out;omega) (HEA.out.below HB0.out) HB.out (Nat.le_refl _))
           have HD:=qq (NState.done (nm:=nm) (opt:=opt) H1.out (by have:=HS.out;rw[HN.out] at this;exact this));clear HO HO2;go_wp2_with fail;refine HSO.out.mono ?_;rintro e w5 ⟨hyes,hno⟩;by_cases h64:(uni ltA [] raw).length≤64
           · obtain⟨v5,rfl,hl5,hb5⟩:=hyes h64;have hp:=HD.out;rw[if_pos h64] at hp;have HFIN:=qq (HYES.out _ v5 w5 hp (hl5.base (by simp)) (below_then HB0.out hb5));obtain⟨a5,c5,rfl⟩:=hl5.row;clear hyes hno hl5 hb5 hp h64;generalize(uni ltA [] raw).length=n5 at*;go_wp2_with fail
             (try go_ret)
             exact HFIN.out
           · obtain⟨rfl,hb5⟩:=hno (by omega);have hp:=HD.out;rw[if_neg h64] at hp;exact⟨rfl,HNO.out w5 hp (below_then HB0.out hb5)⟩
      · have h3b:(OP==3)=false:=by simpa using h3
        have H3:=qq h3;clear h1 h2 h3;obtain⟨l0,q0,f0⟩:=KB.out;have HA0:Hid (AltsV 71 (w.alloc (.cells #[OP,.string ⟨nm.toArray⟩,.bool opt,.slice a n c] 27)).heap.size (w.alloc (.cells #[OP,.string ⟨nm.toArray⟩,.bool opt,.slice a n c] 27)) (.slice none 0 0) []):=qq (AltsV.nil _ _ _)
        have HB1:Hid (Below (w.alloc (.cells #[OP,.string ⟨nm.toArray⟩,.bool opt,.slice a n c] 27)).heap.size (w.alloc (.cells #[OP,.string ⟨nm.toArray⟩,.bool opt,.slice a n c] 27)) (w.alloc (.cells #[OP,.string ⟨nm.toArray⟩,.bool opt,.slice a n c] 27))):=qq (Below.refl _ _);go_wp2_with fail;clear l0 q0 f0
        go_loopw [4,28] (fun ov cc wr=>∃(i:Nat) (acc raw:List PAlt),i≤n∧cc=.int .i64 (i:Int)∧Hid (NState OP kids i acc raw)∧Hid (AltsV 71 (w.alloc (.cells #[OP,.string ⟨nm.toArray⟩,.bool opt,.slice a n c] 27)).heap.size wr ov raw)∧Hid (Below (w.alloc (.cells #[OP,.string ⟨nm.toArray⟩,.bool opt,.slice a n c] 27)).heap.size (w.alloc (.cells #[OP,.string ⟨nm.toArray⟩,.bool opt,.slice a n c] 27)) wr)) (fun _ cc _=>n - (intOf cc).toNat)
        case atStart=>exact⟨0,[],[],by omega,by first | rfl | go_num,HST,HA0,HB1⟩
        case round=>
         obtain⟨i,acc,raw,hi,rfl,HS,HO,HB⟩:=hrel;have hi0:(0:Int)≤(i:Int):=by omega
         obtain⟨m,hm⟩:∃m,m=raw.length:=⟨_,rfl⟩
         obtain⟨ao,co,ho⟩:=HO.out.row;rw[←hm] at ho;subst ho;have HM:=qq hm;have hwr:=HB.out.size;have HBW:=qq (below_then HB0.out HB.out);have hsz1:(w.alloc (.cells #[OP,.string ⟨nm.toArray⟩,.bool opt,.slice a n c] 27)).heap.size=w.heap.size+1:=by simp
         rw[hsz1] at hwr;clear hm;by_cases hlt:i<n
         · have hi1:(i:Int)<(n:Int):=by omega
           obtain⟨k,hk⟩:=PF.at_lt kids i (by rw[←HN.out];exact hlt);have hne:kids≠.nil:=by rintro rfl;cases hk
           obtain⟨b,o,rfl,hbB,hbE,hkt⟩:=HKC.out _ HBW.out hne;obtain⟨c0,c1,c2,ka,kc,c3,hkk⟩:=KT.at kids i k b o hk hkt;have hbw:b<wr.heap.size:=by omega
           have hksz:=PF.at_sz kids i k hk;have HK:=qq hk;obtain⟨nk,hnk⟩:∃x,x=k.kids.len:=⟨_,rfl⟩
           have HCK:=qq (fun W (hb:Below wr.heap.size wr W)=>IH.out k ka kc B E ea W (by have:=HG.out;omega) (by omega) (hkk.below (by omega) hb) (by have:=hb.size;omega) (HEA.out.below (below_then HBW.out hb)));rw[←hnk] at c3;rw[←hnk] at HCK;simp only[encStr] at c1;obtain⟨kop,knm,kopt,kkids⟩:=k;dsimp only at c0 c1 c2 c3 HCK;clear hne hkt hkk hnk hk hksz
           have hT:(wr.alloc (.cells #[.int .i64 0,.string ⟨#[]⟩,.bool false,.slice none 0 0] 27)).heap[wr.heap.size]? =some (.cells #[.int .i64 0,.string ⟨#[]⟩,.bool false,.slice none 0 0] 27 (0,0)):=hp_new _ rfl
           go_wp2_with (refine row_go 27 (.tmp 6) (.tmp 31) rfl rfl (wr.heap.size) #[.int .i64 kop,.string ⟨knm.toArray⟩,.bool kopt,.slice ka nk kc] #[.int .i64 0,.string ⟨#[]⟩,.bool false,.slice none 0 0] 27 hT rfl rfl (by kernel_rfl) rfl (by simp[Value.oneCell']) ?_);intro w2 hk2 hg2;have HB2:=qq (bel_gr ((Below.refl wr.heap.size wr).alloc (Nat.le_refl _) _) hg2 (Nat.le_refl _))
           have HO2:=qq (HO.out.below HB2.out);have HBX:=qq (below_then HB.out HB2.out);have HKB:=qq (KB.out.below HBX.out);have HK2:=qq hk2;clear hT c0 c1 c2 c3 hk2 hg2;obtain⟨lb,qb,fb⟩:=HKB.out;obtain⟨lk,qk,fk⟩:=HK2.out;go_wp2_with fail;refine(HCK.out _ HB2.out).mono ?_;rintro e w5 ⟨hyes,hno⟩
           cases hpc:pNorm ⟨kop,knm,kopt,kkids⟩ with
           | none=>
            obtain⟨rfl,hb5⟩:=hno hpc;have hfin:=HNO.out w5 (HS.out.none_kid H1.out HK.out hpc) (below_then (below_then HBW.out HB2.out) hb5);clear hyes hno hpc;exact⟨rfl,hfin⟩
           | some l=>
            obtain⟨v5,rfl,hl5,hb5⟩:=hyes l hpc;have HPC:=qq hpc;have HL5:=qq hl5;have HB5:=qq (below_then HBX.out hb5);have HO5:=qq (HO2.out.below hb5);obtain⟨hlok,hl64⟩:=pNorm_ok hpc;have HLOK:=qq hlok;obtain⟨a5,c5,rfl⟩:=hl5.row;obtain⟨n5,hn5⟩:∃x,x=l.length:=⟨_,rfl⟩
            rw[←hn5] at HL5 hl64⊢;have HN5:=qq hn5;clear hyes hno hpc hl5 hb5 hlok hn5 lb qb fb lk qk fk
            have HEC:=qq (each_of _ w2.heap.size (.slice ao m co) (.slice a5 n5 c5) raw l w5 HO5.out HL5.out (by have:=HS.out.len H3.out;omega) (by have:=HN5.out;omega) (fun a ha=>by have:=HS.out.one a ha;have:=HG.out;omega) (fun a ha=>by have:=(HLOK.out.one a ha).2;have:=PF.at_sz kids i _ HK.out;have:=HG.out;dsimp only at *;omega));go_wp2_with fail;refine HEC.out.mono ?_
            rintro e w6 ⟨v6,rfl,hv6,hb6⟩;have HB6:=qq (below_then HB5.out hb6);have HSO:=qq (sorted_of _ v6 (pEach raw l) ea _ w6 (hv6.base HB5.out.size) (by
              rw[each_len];have h1:raw.length*l.length≤64*64:=Nat.mul_le_mul (HS.out.len H3.out) (by have:=HN5.out;omega);omega) (fun a ha=>by
                have h1:=(each_mem (m:=250) (k:=250) (fun x hx=>by have:=HS.out.one x hx;have:=HG.out;omega) (fun x hx=>by have:=(HLOK.out.one x hx).2;have:=PF.at_sz kids i _ HK.out;have:=HG.out;dsimp only at *;omega) a ha).2;omega) (HEA.out.below HB0.out) HB6.out (Nat.le_refl _))
            obtain⟨a6,c6,rfl⟩:=hv6.row;clear hv6 hb6 HEC;generalize(pEach raw l).length=n6 at*;go_wp2_with fail;refine HSO.out.mono ?_;rintro e w7 ⟨hyes,hno⟩;by_cases h64:(uni ltA [] (pEach raw l)).length≤64
            · obtain⟨v7,rfl,hl7,hb7⟩:=hyes h64;have HST2:=qq (HS.out.all_step H3.out HK.out HPC.out h64);have HL7:=qq hl7;have HB7:=qq hb7;obtain⟨a7,c7,rfl⟩:=hl7.row;clear hyes hno hl7 hb7 h64;generalize(uni ltA [] (pEach raw l)).length=n7 at*;go_wp2_with fail;go_roundw
              case rel=>exact⟨i+1,_,_,by omega,by go_num,HST2,HL7,HB7⟩
              case measure=>simp[intOf];omega
            · obtain⟨rfl,hb7⟩:=hno (by omega);have hfin:=HNO.out w7 (HS.out.none_all H1.out H3.out HK.out HPC.out (by omega)) (below_then HB0.out hb7);clear hyes hno h64;exact⟨rfl,hfin⟩
         · obtain rfl:n=i:=by omega
           have HO2:=qq HO.out;have HSO:=qq (sorted_of (w.alloc (.cells #[OP,.string ⟨nm.toArray⟩,.bool opt,.slice a n c] 27)).heap.size (.slice ao m co) raw ea (w.alloc (.cells #[OP,.string ⟨nm.toArray⟩,.bool opt,.slice a n c] 27)) wr HO.out (by have:=HS.out.len H3.out;omega) (fun a ha=>by have:=HS.out.one a ha;have:=HG.out;omega) (HEA.out.below HB0.out) HB.out (Nat.le_refl _))
           have HD:=qq (NState.done (nm:=nm) (opt:=opt) H1.out (by have:=HS.out;rw[HN.out] at this;exact this));clear HO HO2;go_wp2_with fail;refine HSO.out.mono ?_;rintro e w5 ⟨hyes,hno⟩;by_cases h64:(uni ltA [] raw).length≤64
           · obtain⟨v5,rfl,hl5,hb5⟩:=hyes h64;have hp:=HD.out;rw[if_pos h64] at hp;have HFIN:=qq (HYES.out _ v5 w5 hp (hl5.base (by simp)) (below_then HB0.out hb5));obtain⟨a5,c5,rfl⟩:=hl5.row;clear hyes hno hl5 hb5 hp h64;generalize(uni ltA [] raw).length=n5 at*;go_wp2_with fail
             (try go_ret)
             exact HFIN.out
           · obtain⟨rfl,hb5⟩:=hno (by omega);have hp:=HD.out;rw[if_neg h64] at hp;exact⟨rfl,HNO.out w5 hp (below_then HB0.out hb5)⟩
end Go.Proofs.YtbepkpjcjpmpmaaGreatDoor
