/- DnE -/
import Derived.Test.YtbepkpjcjpmpmaaGreatDoorADnD
set_option linter.unusedSimpArgs false
set_option linter.unusedVariables false
set_option maxRecDepth 100000
set_option maxHeartbeats 16000000
namespace Go.Proofs.YtbepkpjcjpmpmaaGreatDoor
open Go.RowKit Go.Shelf
theorem bel_blk2 {w:World} {b:Nat} {C:Array Value} {x y:Obj} (h:Blk w b C):Blk ((w.alloc x).alloc y) b C:=(h.alloc x).alloc y
def RNormEnds (q:Option (List PAlt)) (w:World) (e:Ending) (w':World):Prop:=
 (∀l,q=some l→∃v,e=.returned (.tuple #[v,.bool true])∧AltsV 49 w.heap.size w' v l∧Below w.heap.size w w')∧
 (q=none→∃v,e=.returned (.tuple #[v,.bool false])∧Below w.heap.size w w')
theorem each_take {a b:List PAlt} {i:Nat} {x:PAlt} (h:a[i]? =some x):pEach (a.take (i+1)) b=pEach (a.take i) b ++b.map (fun y=>pSet (x ++y)):=by
 unfold pEach;rw[take_snoc h,List.flatMap_append];simp
theorem map_take {α β:Type} {f:α→β} {b:List α} {j:Nat} {y:α} (h:b[j]? =some y):(b.take (j+1)).map f=(b.take j).map f ++ [f y]:=by
 rw[take_snoc h];simp
theorem NState.acc_len {OP:Int} {kids:PF} {i:Nat} {acc raw:List PAlt} (h:NState OP kids i acc raw) (hi:i≤kids.len) (hs:kids.sz<250):acc.length≤16000:=by
 have h1:acc.length≤raw.length:=by rw[h.same];have:=@uni_len _ ltA raw [];simpa using this
 have:=PF.len_sz kids;by_cases h3:OP=3
 · have:=h.few h3;omega
 · have:=h.len h3;omega
theorem NState.acc_one {OP:Int} {kids:PF} {i:Nat} {acc raw:List PAlt} (h:NState OP kids i acc raw) (hs:kids.sz<250):∀a∈acc,a.length≤250:=fun a ha=>by
 have h1:a∈raw:=by
  rw[h.same] at ha;rcases(uni_mem toA a raw []).1 ha with h2 | h2
  · cases h2
  · exact h2
 have:=h.one a h1;omega
theorem NState.acc_ris {OP:Int} {kids:PF} {i:Nat} {acc raw:List PAlt} (h:NState OP kids i acc raw):Ris ltA acc:=by rw[h.same];exact uni_ris toA _ _ List.Pairwise.nil
theorem uni_len2 {o l:List PAlt}:(uni ltA o l).length≤o.length+l.length:=by have:=@uni_len _ ltA l o;omega
theorem uni_one {o l:List PAlt} {k:Nat} (h1:∀a∈o,a.length≤k) (h2:∀a∈l,a.length≤k):∀a∈uni ltA o l,a.length≤k:=fun a ha=>by
 rcases(uni_mem toA a l o).1 ha with h | h
 · exact h1 a h
 · exact h2 a h
theorem rnormal_go (g : Nat) : ∀ (e : PE) (a : Option Addr) (c B E : Nat) (w : World), e.kids.sz < g → e.kids.sz < 250 → e.kids.len ≤ 100000 → e.kids.small → KC B E w e.kids a → E ≤ w.heap.size →
    Calls Tryz.prog 32 #[.agg (exA e a c)] w (RNormEnds (pNorm e) w):=by
 induction g with
 | zero=>intro e a c B E w hg;omega
 | succ g ih=>
  rintro⟨OP,nm,opt,kids⟩ a c B E w hg h250 hkl hsm hK hE;unfold exA;dsimp only at hg h250 hkl hsm hK⊢;obtain⟨i0,ei,ez,es,eb⟩:=info_parts infoNames;obtain⟨j0,fi,fz,fs,fb⟩:=info_parts infoStr;have hne:49≠9:=by decide
  have HNE:=qq hne;have IH:=qq ih;have HKC:=qq (fun W (hW:Below w.heap.size w W)=>hK.below hE hW);have HE0:E≤w.heap.size:=hE;have HSM:=qq hsm;have HG:=qq hg;have H250:=qq h250;obtain⟨n,hn⟩:∃n,n=kids.len:=⟨_,rfl⟩
  have HN:=qq hn;have hn250:n≤250:=by have:=PF.len_sz kids;omega
  have HYES:Hid (∀l v w',pNorm ⟨OP,nm,opt,kids⟩=some l→AltsV 49 w.heap.size w' v l→Below w.heap.size w w'→RNormEnds (pNorm ⟨OP,nm,opt,kids⟩) w (.returned (.tuple #[v,.bool true])) w'):=qq (fun l v w' h1 h2 h3=>⟨fun y hy=>(by rw[h1] at hy;injection hy with hy;subst hy;exact⟨v,rfl,h2,h3⟩),fun hq=>(by rw[h1] at hq;cases hq)⟩)
  have HNO:Hid (∀v w',pNorm ⟨OP,nm,opt,kids⟩=none→Below w.heap.size w w'→RNormEnds (pNorm ⟨OP,nm,opt,kids⟩) w (.returned (.tuple #[v,.bool false])) w'):=qq (fun v w' h1 h2=>⟨fun y hy=>(by rw[h1] at hy;cases hy),fun _=>⟨v,rfl,h2⟩⟩);rw[←hn] at hkl⊢;generalize RNormEnds (pNorm ⟨OP,nm,opt,kids⟩) w=R at HYES HNO⊢;clear hK hE hsm hg h250 ih hn hne
  obtain⟨U,hU⟩:∃U,(w.alloc (.cells #[OP,.string ⟨nm.toArray⟩,.bool opt,.slice a n c] 38)).alloc (.cells #[] 49)=U:=⟨_,rfl⟩
  have HB1:Hid (Below w.heap.size w U):=qq (by rw[←hU];go_grown);have HR1:Hid (U.ownsRow (w.heap.size+1) 49 1 (.slice (some ⟨w.heap.size+1,0,none⟩) 0 0) 0 (#[]:Array Value).toList):=qq (by rw[←hU];have:=own_emptyB (w.alloc (.cells #[OP,.string ⟨nm.toArray⟩,.bool opt,.slice a n c] 38)) (w.heap.size+1) 49 1 (by simp);simpa using this)
  have HA1:Hid (Alts w.heap.size U #[] ([]:List PAlt).toArray):=qq ⟨rfl,fun i hi=>by simp at hi⟩;have KB:Hid (Blk U w.heap.size #[OP,.string ⟨nm.toArray⟩,.bool opt,.slice a n c]):=qq (by rw[←hU];exact(Blk.fresh w _ _ _ rfl).alloc _);have hUz:=HB1.out.size;by_cases h1:OP=1
  · subst h1
    cases opt with
    | false=>
     have HQ:Hid (pNorm ⟨1,nm,false,kids⟩=some [[nm]]):=qq rfl;have HROW:=qq (row_al (row_al HR1.out (.cells #[.string ⟨nm.toArray⟩] 9)) (.cells #[(.slice (some ⟨U.heap.size,0,none⟩) 1 1)] 49))
     have HAL:=qq (HA1.out.keep (w':=(U.alloc (.cells #[.string ⟨nm.toArray⟩] 9)).alloc (.cells #[(.slice (some ⟨U.heap.size,0,none⟩) 1 1)] 49)) (fun k hk=>(bel_alloc ((Below.refl U.heap.size U).alloc (Nat.le_refl _) (.cells #[.string ⟨nm.toArray⟩] 9)) (.cells #[(.slice (some ⟨U.heap.size,0,none⟩) 1 1)] 49)).block k hk))
     have HXU:Hid (AltV w.heap.size ((U.alloc (.cells #[.string ⟨nm.toArray⟩] 9)).alloc (.cells #[(.slice (some ⟨U.heap.size,0,none⟩) 1 1)] 49)) (.slice (some ⟨U.heap.size,0,none⟩) 1 1) [nm]):=qq (row_base (row_al (lit_row U (.string ⟨nm.toArray⟩) 9) _) HB1.out.size)
     have HB4:=qq (bel_alloc (bel_alloc HB1.out (.cells #[.string ⟨nm.toArray⟩] 9)) (.cells #[(.slice (some ⟨U.heap.size,0,none⟩) 1 1)] 49))
     have HLIT:Hid (((U.alloc (.cells #[.string ⟨nm.toArray⟩] 9)).alloc (.cells #[(.slice (some ⟨U.heap.size,0,none⟩) 1 1)] 49)).ownsRow (U.heap.size+1) 49 1 (.slice (some ⟨U.heap.size+1,0,none⟩) 1 1) 1 [(.slice (some ⟨U.heap.size,0,none⟩) 1 1)]):=qq (by have:=lit_row (U.alloc (.cells #[.string ⟨nm.toArray⟩] 9)) (.slice (some ⟨U.heap.size,0,none⟩) 1 1) 49;simpa using this);obtain⟨lk,qk,fk⟩:=KB.out
     go_enter Tryz.func32,Tryz.ntmps32;go_wp2_with (at_builtin;refine wpList_append_rows rfl _ _ 29 rfl (w.heap.size+1) 49 i0 (.slice none 0 0) 1 24 Tryz.underlying29 ei ez es eb rfl (by decide) _ 0 _ rfl HROW.out _ _ _ _ rfl HLIT.out ?oq4 ?aq4 ?bq4 ?cq4 ?_)
     case oq4=>first | rfl | (intro u hu;obtain rfl:=List.mem_singleton.1 hu;rfl)
     (try(case aq4=>unfold maxLen;omega))
     (try(case bq4=>omega))
     (try(case cq4=>(try simp);omega))
     intro vw5 w5 hown hgrow hat;have HBw5:=qq (HB4.out.grown hgrow HB4.out.size (fun q hq=>Nat.le_of_succ_le (HROW.out.lt q hq).1));have HOw5:Hid (w5.ownsRow (w.heap.size+1) 49 1 vw5 (0+1) (#[].push (.slice (some ⟨U.heap.size,0,none⟩) 1 1)).toList):=qq (by simpa using hown)
     have HLw5:Hid (Alts w.heap.size w5 (#[].push (.slice (some ⟨U.heap.size,0,none⟩) 1 1)) ([] ++ [[nm]]).toArray):=qq (snoc2 HNE.out HROW.out HAL.out HXU.out hgrow);have HAw5:Hid (AltsV 49 w.heap.size w5 vw5 ([] ++ [[nm]])):=qq ⟨#[].push (.slice (some ⟨U.heap.size,0,none⟩) 1 1),row_base HOw5.out (by omega),HLw5.out⟩
     have KBw5:=qq (Blk.same (bel_blk2 KB.out) hgrow.size (hgrow.block w.heap.size (by have:=KB.out.lt;simp;omega) (fun e=>by have:=(HROW.out.lt _ e.symm).1;omega)));have hzw5:=HBw5.out.size;obtain⟨aw5,cw5,rfl⟩:=row_slice hown;clear hown hgrow hat HROW HAL HXU HB4 HLIT;clear hU;have HF:Hid (R (.returned (.tuple #[.slice aw5 1 cw5,.bool true])) w5):=qq (HYES.out _ _ _ HQ.out HAw5.out HBw5.out)
     go_wp2_with fail
     (try go_ret)
     exact HF.out
    | true=>
     have HQ:Hid (pNorm ⟨1,nm,true,kids⟩=some [[],[nm]]):=qq rfl;have HROW:=qq (row_al (row_al HR1.out (.cells #[] 9)) (.cells #[(.slice (some ⟨U.heap.size,0,none⟩) 0 0)] 49))
     have HAL:=qq (HA1.out.keep (w':=(U.alloc (.cells #[] 9)).alloc (.cells #[(.slice (some ⟨U.heap.size,0,none⟩) 0 0)] 49)) (fun k hk=>(bel_alloc ((Below.refl U.heap.size U).alloc (Nat.le_refl _) (.cells #[] 9)) (.cells #[(.slice (some ⟨U.heap.size,0,none⟩) 0 0)] 49)).block k hk))
     have HXU:Hid (AltV w.heap.size ((U.alloc (.cells #[] 9)).alloc (.cells #[(.slice (some ⟨U.heap.size,0,none⟩) 0 0)] 49)) (.slice (some ⟨U.heap.size,0,none⟩) 0 0) []):=qq (row_base (row_al (own_emptyB U U.heap.size 9 1 (Nat.le_refl _)) _) HB1.out.size);have HB4:=qq (bel_alloc (bel_alloc HB1.out (.cells #[] 9)) (.cells #[(.slice (some ⟨U.heap.size,0,none⟩) 0 0)] 49))
     have HLIT:Hid (((U.alloc (.cells #[] 9)).alloc (.cells #[(.slice (some ⟨U.heap.size,0,none⟩) 0 0)] 49)).ownsRow (U.heap.size+1) 49 1 (.slice (some ⟨U.heap.size+1,0,none⟩) 1 1) 1 [(.slice (some ⟨U.heap.size,0,none⟩) 0 0)]):=qq (by have:=lit_row (U.alloc (.cells #[] 9)) (.slice (some ⟨U.heap.size,0,none⟩) 0 0) 49;simpa using this);obtain⟨lk,qk,fk⟩:=KB.out;go_enter Tryz.func32,Tryz.ntmps32
     go_wp2_with (at_builtin;refine wpList_append_rows rfl _ _ 29 rfl (w.heap.size+1) 49 i0 (.slice none 0 0) 1 24 Tryz.underlying29 ei ez es eb rfl (by decide) _ 0 _ rfl HROW.out _ _ _ _ rfl HLIT.out ?oq5 ?aq5 ?bq5 ?cq5 ?_)
     case oq5=>first | rfl | (intro u hu;obtain rfl:=List.mem_singleton.1 hu;rfl)
     (try(case aq5=>unfold maxLen;omega))
     (try(case bq5=>omega))
     (try(case cq5=>(try simp);omega))
     intro vw5 w5 hown hgrow hat;have HBw5:=qq (HB4.out.grown hgrow HB4.out.size (fun q hq=>Nat.le_of_succ_le (HROW.out.lt q hq).1));have HOw5:Hid (w5.ownsRow (w.heap.size+1) 49 1 vw5 (0+1) (#[].push (.slice (some ⟨U.heap.size,0,none⟩) 0 0)).toList):=qq (by simpa using hown)
     have HLw5:Hid (Alts w.heap.size w5 (#[].push (.slice (some ⟨U.heap.size,0,none⟩) 0 0)) ([] ++ [[]]).toArray):=qq (snoc2 HNE.out HROW.out HAL.out HXU.out hgrow);have HAw5:Hid (AltsV 49 w.heap.size w5 vw5 ([] ++ [[]])):=qq ⟨#[].push (.slice (some ⟨U.heap.size,0,none⟩) 0 0),row_base HOw5.out (by omega),HLw5.out⟩
     have KBw5:=qq (Blk.same (bel_blk2 KB.out) hgrow.size (hgrow.block w.heap.size (by have:=KB.out.lt;simp;omega) (fun e=>by have:=(HROW.out.lt _ e.symm).1;omega)));have hzw5:=HBw5.out.size;obtain⟨aw5,cw5,rfl⟩:=row_slice hown;clear hown hgrow hat HROW HAL HXU HB4 HLIT;clear hU lk qk fk;obtain⟨lk,qk,fk⟩:=KBw5.out;have HBU:=HBw5;obtain⟨vs5,hr5,ha5⟩:=HAw5.out;have HR5:=qq HOw5.out;have HA5:=HLw5
     clear hr5 ha5;have HROW:=qq (row_al (row_al HR5.out (.cells #[.string ⟨nm.toArray⟩] 9)) (.cells #[(.slice (some ⟨w5.heap.size,0,none⟩) 1 1)] 49))
     have HAL:=qq (HA5.out.keep (w':=(w5.alloc (.cells #[.string ⟨nm.toArray⟩] 9)).alloc (.cells #[(.slice (some ⟨w5.heap.size,0,none⟩) 1 1)] 49)) (fun k hk=>(bel_alloc ((Below.refl w5.heap.size w5).alloc (Nat.le_refl _) (.cells #[.string ⟨nm.toArray⟩] 9)) (.cells #[(.slice (some ⟨w5.heap.size,0,none⟩) 1 1)] 49)).block k hk))
     have HXU:Hid (AltV w.heap.size ((w5.alloc (.cells #[.string ⟨nm.toArray⟩] 9)).alloc (.cells #[(.slice (some ⟨w5.heap.size,0,none⟩) 1 1)] 49)) (.slice (some ⟨w5.heap.size,0,none⟩) 1 1) [nm]):=qq (row_base (row_al (lit_row w5 (.string ⟨nm.toArray⟩) 9) _) HBw5.out.size)
     have HB4:=qq (bel_alloc (bel_alloc HBw5.out (.cells #[.string ⟨nm.toArray⟩] 9)) (.cells #[(.slice (some ⟨w5.heap.size,0,none⟩) 1 1)] 49))
     have HLIT:Hid (((w5.alloc (.cells #[.string ⟨nm.toArray⟩] 9)).alloc (.cells #[(.slice (some ⟨w5.heap.size,0,none⟩) 1 1)] 49)).ownsRow (w5.heap.size+1) 49 1 (.slice (some ⟨w5.heap.size+1,0,none⟩) 1 1) 1 [(.slice (some ⟨w5.heap.size,0,none⟩) 1 1)]):=qq (by have:=lit_row (w5.alloc (.cells #[.string ⟨nm.toArray⟩] 9)) (.slice (some ⟨w5.heap.size,0,none⟩) 1 1) 49;simpa using this)
     go_wp2_with (at_builtin;refine wpList_append_rows rfl _ _ 29 rfl (w.heap.size+1) 49 i0 (.slice none 0 0) 1 24 Tryz.underlying29 ei ez es eb rfl (by decide) _ 1 _ rfl HROW.out _ _ _ _ rfl HLIT.out ?oq6 ?aq6 ?bq6 ?cq6 ?_)
     case oq6=>first | rfl | (intro u hu;obtain rfl:=List.mem_singleton.1 hu;rfl)
     (try(case aq6=>unfold maxLen;omega))
     (try(case bq6=>omega))
     (try(case cq6=>(try simp);omega))
     intro vw6 w6 hown hgrow hat;have HBw6:=qq (HB4.out.grown hgrow HB4.out.size (fun q hq=>Nat.le_of_succ_le (HROW.out.lt q hq).1));have HOw6:Hid (w6.ownsRow (w.heap.size+1) 49 1 vw6 (1+1) ((#[].push (.slice (some ⟨U.heap.size,0,none⟩) 0 0)).push (.slice (some ⟨w5.heap.size,0,none⟩) 1 1)).toList):=qq (by simpa using hown)
     have HLw6:Hid (Alts w.heap.size w6 ((#[].push (.slice (some ⟨U.heap.size,0,none⟩) 0 0)).push (.slice (some ⟨w5.heap.size,0,none⟩) 1 1)) (([] ++ [[]]) ++ [[nm]]).toArray):=qq (snoc2 HNE.out HROW.out HAL.out HXU.out hgrow)
     have HAw6:Hid (AltsV 49 w.heap.size w6 vw6 (([] ++ [[]]) ++ [[nm]])):=qq ⟨(#[].push (.slice (some ⟨U.heap.size,0,none⟩) 0 0)).push (.slice (some ⟨w5.heap.size,0,none⟩) 1 1),row_base HOw6.out (by omega),HLw6.out⟩;have KBw6:=qq (Blk.same (bel_blk2 KBw5.out) hgrow.size (hgrow.block w.heap.size (by have:=KBw5.out.lt;simp;omega) (fun e=>by have:=(HROW.out.lt _ e.symm).1;omega)))
     have hzw6:=HBw6.out.size;obtain⟨aw6,cw6,rfl⟩:=row_slice hown;clear hown hgrow hat HROW HAL HXU HB4 HLIT;have HF:Hid (R (.returned (.tuple #[.slice aw6 (1+1) cw6,.bool true])) w6):=qq (HYES.out _ _ _ HQ.out HAw6.out HBw6.out);go_wp2_with fail
     (try go_ret)
     exact HF.out
  · have hop1:(OP==1)=false:=by simpa using h1
    have HOP1:=qq h1;by_cases h3:OP=3
    · have hop3:(OP==3)=true:=by simpa using h3
      have hop2:(OP==2)=false:=by simp[h3]
      have HOP3:=qq h3;have HA0:Hid (AltsV 49 w.heap.size U (.slice (some ⟨w.heap.size+1,0,none⟩) 0 0) []):=qq ⟨#[],row_base HR1.out (by omega),HA1.out⟩;have HS0:Hid (NState OP kids 0 [] []):=qq (by have:=NState.start OP kids;rwa[if_neg (show ¬OP=2 by omega)] at this);clear h1 h3;obtain⟨lk,qk,fk⟩:=KB.out;go_enter Tryz.func32,Tryz.ntmps32;go_wp2_with fail;clear hU lk qk fk
      go_loopw [4,42] (fun ov cc wr=>∃(i:Nat) (acc raw:List PAlt),i≤n∧cc=.int .i64 (i:Int)∧Hid (NState OP kids i acc raw)∧Hid (AltsV 49 w.heap.size wr ov acc)∧Hid (Blk wr w.heap.size #[OP,.string ⟨nm.toArray⟩,.bool opt,.slice a n c])∧Hid (Below w.heap.size w wr)) (fun _ cc _=>n - (intOf cc).toNat)
      case atStart=>exact⟨0,[],[],by omega,by first | rfl | go_num,HS0,HA0,KB,HB1⟩
      case round=>
       obtain⟨i,acc,raw,hi,rfl,HS,HO,HK,HB⟩:=hrel;have hi0:(0:Int)≤(i:Int):=by omega
       have hwr:=HB.out.size;obtain⟨ao,co,rfl⟩:=HO.out.row;obtain⟨na,hna⟩:∃q,q=acc.length:=⟨_,rfl⟩
       have HNA:=qq hna;have hnal:=HS.out.acc_len (by rw[←HN.out];exact hi) H250.out;have HAO:=qq (HS.out.acc_one H250.out);have HAR:=qq HS.out.acc_ris;rw[←hna] at HO hnal⊢;clear hna;obtain⟨lk,qk,fk⟩:=HK.out;by_cases hlt:i<n
       · have hi1:(i:Int)<(n:Int):=by omega
         obtain⟨k,hk⟩:=PF.at_lt kids i (by rw[←HN.out];exact hlt);have hne:kids≠.nil:=by rintro rfl;cases hk
         obtain⟨b,o,rfl,hbB,hbE,hkt⟩:=HKC.out _ HB.out hne;obtain⟨c0,c1,c2,ka,kc,c3,hkk⟩:=KT.at kids i k b o hk hkt;have hbw:b<wr.heap.size:=by omega
         have hsm:=PF.small_at kids i k HSM.out hk;have hksz:=PF.at_sz kids i k hk;have HKI:=qq hk;have HCK:=qq (fun W (hb:Below wr.heap.size wr W)=>IH.out k ka kc B E W (by have:=HG.out;omega) (by have:=H250.out;omega) hsm.2.1 hsm.2.2 (hkk.below (by omega) hb) (by have:=hb.size;omega));obtain⟨kop,knm,kopt,kkids⟩:=k;simp only[encStr] at c1;dsimp only[exA] at c0 c1 c2 c3 HCK
         clear hne hkt hkk hsm hk hksz;go_wp2_with fail;have hba:Below wr.heap.size wr (wr.alloc (.cells #[kop,.string ⟨knm.toArray⟩,.bool kopt,.slice ka kkids.len kc] 38)):=(Below.refl _ _).alloc (Nat.le_refl _) _;refine(HCK.out _ hba).mono ?_;rintro e w2 ⟨hyes,hno⟩
         cases hpn:pNorm ⟨kop,knm,kopt,kkids⟩ with
         | none=>
          obtain⟨v2,rfl,hb2⟩:=hno hpn;have HF:Hid (R (.returned (.tuple #[.slice none 0 0,.bool false])) w2):=qq (HNO.out _ _ (HS.out.none_kid HOP1.out HKI.out hpn) (below_then (bel_alloc HB.out _) hb2));clear hyes hno hpn hb2 hba c0 c1 c2 c3;go_wp2_with fail
          (try go_ret)
          exact HF.out
         | some mm=>
          obtain⟨v2,rfl,hm2,hb2⟩:=hyes mm hpn;have hb02:=below_then hba hb2;have HB2:=qq (below_then HB.out hb02);have HK2:=qq (HK.out.below hb02);have HO2:=qq (HO.out.below hb02);have hz2:=HB2.out.size;have hbz:=hb2.size;have hmok:=(pNorm_ok hpn)
          have HM2:Hid (∀W,Below w2.heap.size w2 W→AltsV 49 w.heap.size W v2 mm):=qq (fun W hW=>(hm2.base (by simp;omega)).below hW);have hml:mm.length≤64:=hmok.2;have HMO:Hid (∀a∈mm,a.length≤250):=qq (fun a ha=>by have:=(hmok.1.one a ha).2;have h1:=PF.at_sz kids i _ HKI.out;have:=H250.out;dsimp only at *;omega);obtain⟨am,cm,rfl⟩:=hm2.row;obtain⟨nm2,hnm2⟩:∃q,q=mm.length:=⟨_,rfl⟩
          have HNM:=qq hnm2;have HPN:=qq hpn;rw[←hnm2] at hml HM2⊢;clear hyes hno hpn hm2 hmok hnm2 c0 c1 c2 c3 hba hb02 hb2 lk qk fk;obtain⟨lk,qk,fk⟩:=HK2.out;go_wp2_with fail
          go_loopw [4,58] (fun ov cc wr=>∃(j:Nat) (a3:Option Addr) (m3 c3:Nat),j≤nm2∧m3≤17000∧ov=.slice a3 m3 c3∧cc=.int .i64 (j:Int)∧Hid (m3=(uni ltA acc (mm.take j)).length)∧Hid (AltsV 49 w.heap.size wr ov (uni ltA acc (mm.take j)))∧Hid (Below w2.heap.size w2 wr)) (fun _ cc _=>nm2 - (intOf cc).toNat)
          case atStart=>exact⟨0,ao,na,co,by omega,by omega,by first | rfl | exact True.intro,by first | rfl | go_num,qq HNA.out,HO2,qq (Below.refl _ _)⟩
          case round=>
           obtain⟨j,a3,m3,c3,hj,hm3,rfl,rfl,HM3,HO3,HB3⟩:=hrel;have hj0:(0:Int)≤(j:Int):=by omega
           have hz3:=HB3.out.size;by_cases hjl:j<nm2
           · have hj1:(j:Int)<(nm2:Int):=by omega
             obtain⟨x,hx⟩:∃x,mm[j]? =some x:=⟨_,List.getElem?_eq_getElem (by rw[←HNM.out];exact hjl)⟩
             obtain⟨gx,ax,cx,cap,ex,hxv,hcell,hgl⟩:=alts_at (HM2.out _ HB3.out) j x hx;injection ex with ex1 exn ex2
             clear exn;subst ex1 ex2;have hcx:=hcell wr (Below.refl _ _);have HUN:Hid (uni ltA acc (mm.take (j+1))=ins ltA x (uni ltA acc (mm.take j))):=qq (by rw[take_snoc hx];exact uni_snoc _ _ _);have hxl:=HMO.out x (List.mem_of_getElem? hx)
             have HPUT:=qq (put_of w.heap.size (.slice a3 m3 c3) (.slice ax x.length cx) (uni ltA acc (mm.take j)) x wr HO3.out hxv (uni_ris toA _ _ HAR.out) (by rw[←HM3.out];omega) (uni_one (fun a ha=>by have:=HAO.out a ha;omega) (fun a ha=>by have:=HMO.out a (List.mem_of_mem_take ha);omega)) (by omega) (by omega));obtain⟨nx,hnx⟩:∃q,q=x.length:=⟨_,rfl⟩
             rw[←hnx] at HPUT hcx;clear hcell hxv hnx hx;go_wp2_with fail;refine HPUT.out.mono ?_;rintro e w4 ⟨v4,rfl,hv4,hb4⟩;rw[←HUN.out] at hv4;obtain⟨a4,c4,rfl⟩:=hv4.row;have HV4:=qq hv4;have HB4:=qq (below_then HB3.out hb4);have HL4:Hid ((uni ltA acc (mm.take (j+1))).length≤17000):=qq (by
               have h1:=@uni_len2 acc (mm.take (j+1));rw[List.length_take] at h1;have:=HNA.out;have:=HNM.out;omega)
             obtain⟨m4,hm4⟩:∃q,q=(uni ltA acc (mm.take (j+1))).length:=⟨_,rfl⟩
             rw[←hm4] at HV4 HL4⊢;have hm4l:=HL4.out;have HM4:=qq hm4;clear hv4 hb4 hm4 hcx HPUT;go_wp2_with fail;go_roundw
             case rel=>exact⟨j+1,a4,m4,c4,by omega,hm4l,by first | rfl | exact True.intro,by go_num,HM4,HV4,HB4⟩
             case measure=>simp[intOf];omega
           · obtain rfl:nm2=j:=by omega
             have HS3:=qq (NState.one_step (by have:=HS.out;rw[HOP3.out] at this;exact this) HKI.out HPN.out);have HAL3:Hid (AltsV 49 w.heap.size wr (.slice a3 m3 c3) (uni ltA acc mm)):=qq (by have:=HO3.out;rwa[HNM.out,List.take_length] at this);have HK3:=qq (HK2.out.below HB3.out);have HB5:=qq (below_then HB2.out HB3.out)
             have HS4:Hid (NState OP kids (i+1) (uni ltA acc mm) (raw ++mm)):=qq (by rw[HOP3.out];exact HS3.out);clear hop3;go_wp2_with fail;go_roundw
             case rel=>exact⟨i+1,_,_,by omega,by go_num,HS4,HAL3,HK3,HB5⟩
             case measure=>simp[intOf];omega
       · obtain rfl:n=i:=by omega
         have HDONE:Hid (pNorm ⟨OP,nm,opt,kids⟩=if acc.length≤64 then some acc else none):=qq (by have h:=HS.out;rw[HN.out] at h;rw[h.done HOP1.out,←h.same]);by_cases h64:na≤64
         · have h64':(na:Int)≤64:=by omega
           have HF:Hid (R (.returned (.tuple #[.slice ao na co,.bool true])) wr):=qq (HYES.out _ _ _ (by rw[HDONE.out,if_pos (by rw[←HNA.out];exact h64)]) HO.out HB.out);go_wp2_with fail
           (try go_ret)
           exact HF.out
         · have h64':¬(na:Int)≤64:=by omega
           have HF:Hid (R (.returned (.tuple #[.slice ao na co,.bool false])) wr):=qq (HNO.out _ _ (by rw[HDONE.out,if_neg (by rw[←HNA.out];exact h64)]) HB.out);go_wp2_with fail
           (try go_ret)
           exact HF.out
    · have hop3:(OP==3)=false:=by simpa using h3
      have HOP3:=qq h3
      cases hop2:(OP==2) with
      | true=>
       have HS0:Hid (NState OP kids 0 [[]] [[]]):=qq (by have:=NState.start OP kids;rwa[if_pos (by simpa using hop2)] at this);have HROW:=qq (row_al (row_al HR1.out (.cells #[] 9)) (.cells #[(.slice (some ⟨U.heap.size,0,none⟩) 0 0)] 49))
       have HAL:=qq (HA1.out.keep (w':=(U.alloc (.cells #[] 9)).alloc (.cells #[(.slice (some ⟨U.heap.size,0,none⟩) 0 0)] 49)) (fun k hk=>(bel_alloc ((Below.refl U.heap.size U).alloc (Nat.le_refl _) (.cells #[] 9)) (.cells #[(.slice (some ⟨U.heap.size,0,none⟩) 0 0)] 49)).block k hk))
       have HXU:Hid (AltV w.heap.size ((U.alloc (.cells #[] 9)).alloc (.cells #[(.slice (some ⟨U.heap.size,0,none⟩) 0 0)] 49)) (.slice (some ⟨U.heap.size,0,none⟩) 0 0) []):=qq (row_base (row_al (own_emptyB U U.heap.size 9 1 (Nat.le_refl _)) _) HB1.out.size);have HB4:=qq (bel_alloc (bel_alloc HB1.out (.cells #[] 9)) (.cells #[(.slice (some ⟨U.heap.size,0,none⟩) 0 0)] 49))
       have HLIT:Hid (((U.alloc (.cells #[] 9)).alloc (.cells #[(.slice (some ⟨U.heap.size,0,none⟩) 0 0)] 49)).ownsRow (U.heap.size+1) 49 1 (.slice (some ⟨U.heap.size+1,0,none⟩) 1 1) 1 [(.slice (some ⟨U.heap.size,0,none⟩) 0 0)]):=qq (by have:=lit_row (U.alloc (.cells #[] 9)) (.slice (some ⟨U.heap.size,0,none⟩) 0 0) 49;simpa using this);clear h1 h3;obtain⟨lk,qk,fk⟩:=KB.out
       go_enter Tryz.func32,Tryz.ntmps32;go_wp2_with (at_builtin;refine wpList_append_rows rfl _ _ 29 rfl (w.heap.size+1) 49 i0 (.slice none 0 0) 1 24 Tryz.underlying29 ei ez es eb rfl (by decide) _ 0 _ rfl HROW.out _ _ _ _ rfl HLIT.out ?oq8 ?aq8 ?bq8 ?cq8 ?_)
       case oq8=>first | rfl | (intro u hu;obtain rfl:=List.mem_singleton.1 hu;rfl)
       (try(case aq8=>unfold maxLen;omega))
       (try(case bq8=>omega))
       (try(case cq8=>(try simp);omega))
       intro vw5 w5 hown hgrow hat;have HBw5:=qq (HB4.out.grown hgrow HB4.out.size (fun q hq=>Nat.le_of_succ_le (HROW.out.lt q hq).1));have HOw5:Hid (w5.ownsRow (w.heap.size+1) 49 1 vw5 (0+1) (#[].push (.slice (some ⟨U.heap.size,0,none⟩) 0 0)).toList):=qq (by simpa using hown)
       have HLw5:Hid (Alts w.heap.size w5 (#[].push (.slice (some ⟨U.heap.size,0,none⟩) 0 0)) ([] ++ [[]]).toArray):=qq (snoc2 HNE.out HROW.out HAL.out HXU.out hgrow);have HAw5:Hid (AltsV 49 w.heap.size w5 vw5 ([] ++ [[]])):=qq ⟨#[].push (.slice (some ⟨U.heap.size,0,none⟩) 0 0),row_base HOw5.out (by omega),HLw5.out⟩
       have KBw5:=qq (Blk.same (bel_blk2 KB.out) hgrow.size (hgrow.block w.heap.size (by have:=KB.out.lt;simp;omega) (fun e=>by have:=(HROW.out.lt _ e.symm).1;omega)));have hzw5:=HBw5.out.size;obtain⟨aw5,cw5,rfl⟩:=row_slice hown;clear hown hgrow hat HROW HAL HXU HB4 HLIT;clear hU lk qk fk;obtain⟨lk,qk,fk⟩:=KBw5.out;go_wp2_with fail;clear lk qk fk
       go_loopw [4,42] (fun ov cc wr=>∃(i:Nat) (acc raw:List PAlt),i≤n∧cc=.int .i64 (i:Int)∧Hid (NState OP kids i acc raw)∧Hid (AltsV 49 w.heap.size wr ov acc)∧Hid (Blk wr w.heap.size #[OP,.string ⟨nm.toArray⟩,.bool opt,.slice a n c])∧Hid (Below w.heap.size w wr)) (fun _ cc _=>n - (intOf cc).toNat)
       case atStart=>exact⟨0,[[]],[[]],by omega,by first | rfl | go_num,HS0,HAw5,KBw5,HBw5⟩
       case round=>
        obtain⟨i,acc,raw,hi,rfl,HS,HO,HK,HB⟩:=hrel;have hi0:(0:Int)≤(i:Int):=by omega
        have hwr:=HB.out.size;obtain⟨ao,co,rfl⟩:=HO.out.row;obtain⟨na,hna⟩:∃q,q=acc.length:=⟨_,rfl⟩
        have HNA:=qq hna;have hnal:=HS.out.acc_len (by rw[←HN.out];exact hi) H250.out;have HAO:=qq (HS.out.acc_one H250.out);have HAR:=qq HS.out.acc_ris;rw[←hna] at HO hnal⊢;clear hna;obtain⟨lk,qk,fk⟩:=HK.out;by_cases hlt:i<n
        · have hi1:(i:Int)<(n:Int):=by omega
          obtain⟨k,hk⟩:=PF.at_lt kids i (by rw[←HN.out];exact hlt);have hne:kids≠.nil:=by rintro rfl;cases hk
          obtain⟨b,o,rfl,hbB,hbE,hkt⟩:=HKC.out _ HB.out hne;obtain⟨c0,c1,c2,ka,kc,c3,hkk⟩:=KT.at kids i k b o hk hkt;have hbw:b<wr.heap.size:=by omega
          have hsm:=PF.small_at kids i k HSM.out hk;have hksz:=PF.at_sz kids i k hk;have HKI:=qq hk;have HCK:=qq (fun W (hb:Below wr.heap.size wr W)=>IH.out k ka kc B E W (by have:=HG.out;omega) (by have:=H250.out;omega) hsm.2.1 hsm.2.2 (hkk.below (by omega) hb) (by have:=hb.size;omega));obtain⟨kop,knm,kopt,kkids⟩:=k;simp only[encStr] at c1;dsimp only[exA] at c0 c1 c2 c3 HCK
          clear hne hkt hkk hsm hk hksz;go_wp2_with fail;have hba:Below wr.heap.size wr (wr.alloc (.cells #[kop,.string ⟨knm.toArray⟩,.bool kopt,.slice ka kkids.len kc] 38)):=(Below.refl _ _).alloc (Nat.le_refl _) _;refine(HCK.out _ hba).mono ?_;rintro e w2 ⟨hyes,hno⟩
          cases hpn:pNorm ⟨kop,knm,kopt,kkids⟩ with
          | none=>
           obtain⟨v2,rfl,hb2⟩:=hno hpn;have HF:Hid (R (.returned (.tuple #[.slice none 0 0,.bool false])) w2):=qq (HNO.out _ _ (HS.out.none_kid HOP1.out HKI.out hpn) (below_then (bel_alloc HB.out _) hb2));clear hyes hno hpn hb2 hba c0 c1 c2 c3;go_wp2_with fail
           (try go_ret)
           exact HF.out
          | some mm=>
           obtain⟨v2,rfl,hm2,hb2⟩:=hyes mm hpn;have hb02:=below_then hba hb2;have HB2:=qq (below_then HB.out hb02);have HK2:=qq (HK.out.below hb02);have HO2:=qq (HO.out.below hb02);have hz2:=HB2.out.size;have hbz:=hb2.size;have hmok:=(pNorm_ok hpn)
           have HM2:Hid (∀W,Below w2.heap.size w2 W→AltsV 49 w.heap.size W v2 mm):=qq (fun W hW=>(hm2.base (by simp;omega)).below hW);have hml:mm.length≤64:=hmok.2;have HMO:Hid (∀a∈mm,a.length≤250):=qq (fun a ha=>by have:=(hmok.1.one a ha).2;have h1:=PF.at_sz kids i _ HKI.out;have:=H250.out;dsimp only at *;omega);obtain⟨am,cm,rfl⟩:=hm2.row;obtain⟨nm2,hnm2⟩:∃q,q=mm.length:=⟨_,rfl⟩
           have HNM:=qq hnm2;have HPN:=qq hpn;rw[←hnm2] at hml HM2⊢;clear hyes hno hpn hm2 hmok hnm2 c0 c1 c2 c3 hba hb02 hb2 lk qk fk;obtain⟨lk,qk,fk⟩:=HK2.out;have hna64:na≤64:=by have h1:=HS.out.len HOP3.out;have h2:=HS.out.ris HOP3.out;have h3:=HNA.out;rw[h2] at h1;omega
           have hO2:Hid (∀W,Below w2.heap.size w2 W→AltsV 49 w.heap.size W (.slice ao na co) acc):=qq (fun W hW=>HO2.out.below hW);go_wp2_with fail
           go_loopw [11,69] (fun ov cc wr=>∃(p:Nat) (a3:Option Addr) (m3 c3:Nat),p≤na∧m3≤5000∧ov=.slice a3 m3 c3∧cc=.int .i64 (p:Int)∧Hid (m3=(uni ltA [] (pEach (acc.take p) mm)).length)∧Hid (AltsV 49 w.heap.size wr ov (uni ltA [] (pEach (acc.take p) mm)))∧Hid (Below w2.heap.size w2 wr)) (fun _ cc _=>na - (intOf cc).toNat)
           case atStart=>exact⟨0,some ⟨w2.heap.size,0,none⟩,0,0,by omega,by omega,by first | rfl | exact True.intro,by first | rfl | go_num,qq rfl,qq (by have e:uni ltA [] (pEach (acc.take 0) mm)=[]:=rfl;rw[e];exact⟨#[],own_emptyB w2 w.heap.size _ _ HB2.out.size,rfl,fun i hi=>by simp at hi⟩),qq ((Below.refl _ _).alloc (Nat.le_refl _) _)⟩
           case round=>
            obtain⟨p,a3,m3,c3,hp,hm3,rfl,rfl,HM3,HO3,HB3⟩:=hrel;have hp0:(0:Int)≤(p:Int):=by omega
            have hz3:=HB3.out.size;by_cases hpl:p<na
            · have hp1:(p:Int)<(na:Int):=by omega
              obtain⟨x,hx⟩:∃x,acc[p]? =some x:=⟨_,List.getElem?_eq_getElem (by rw[←HNA.out];exact hpl)⟩
              have HXI:=qq hx;have HHX:Hid (∀W,Below w2.heap.size w2 W→∃g ax cx cap,ao=some ⟨g,0,none⟩∧AltV w.heap.size W (.slice ax x.length cx) x∧W.cell? ⟨g,p,none⟩=some (.slice ax x.length cx)∧g<W.heap.size):=qq (fun W hW=>by
                obtain⟨g,ax,cx,cap,e1,e2,e3,e4⟩:=alts_at (hO2.out W hW) p x hx;injection e1 with e1
                exact⟨g,ax,cx,cap,e1,e2,e3 W (Below.refl _ _),e4⟩)
              obtain⟨gx,ax,cx,cap,rfl,hxv,hcx,hgl⟩:=HHX.out _ HB3.out;have hxl:=HAO.out x (List.mem_of_getElem? hx);have HXV:=qq hxv;have HXW:=qq (fun W (hW:Below wr.heap.size wr W)=>row_be HXV.out hW);have HB3K:=HB3;obtain⟨nx,hnx⟩:∃q,q=x.length:=⟨_,rfl⟩
              have HNX:=qq hnx;rw[←hnx] at hcx hxl HXW;clear hxv hnx hx HHX HXV;obtain⟨W3,hW3⟩:∃W3,W3=wr:=⟨_,rfl⟩
              rw[←hW3] at HO3 HB3 HB3K HXW hz3;have HW3:=qq hW3;clear hW3;go_wp2_with fail
              go_loopw [11,75] (fun ov cc wr=>∃(j:Nat) (a4:Option Addr) (m4 c4:Nat),j≤nm2∧m4≤5000∧ov=.slice a4 m4 c4∧cc=.int .i64 (j:Int)∧Hid (m4=(uni ltA [] (pEach (acc.take p) mm ++(mm.take j).map (fun y=>pSet (x ++y)))).length)∧Hid (AltsV 49 w.heap.size wr ov (uni ltA [] (pEach (acc.take p) mm ++(mm.take j).map (fun y=>pSet (x ++y)))))∧Hid (Below W3.heap.size W3 wr)) (fun _ cc _=>nm2 - (intOf cc).toNat)
              case atStart=>exact⟨0,a3,m3,c3,by omega,by omega,by first | rfl | exact True.intro,by first | rfl | go_num,qq (by rw[HM3.out];simp),qq (by have:=HO3.out;rw[HW3.out] at this;simpa using this),qq (by rw[HW3.out];exact Below.refl _ _)⟩
              case round=>
               obtain⟨j,a4,m4,c4,hj,hm4,rfl,rfl,HM4,HO4,HB4⟩:=hrel;have hj0:(0:Int)≤(j:Int):=by omega
               have hz4:=HB4.out.size;have HB24:=qq (below_then HB3.out HB4.out);by_cases hjl:j<nm2
               · have hj1:(j:Int)<(nm2:Int):=by omega
                 obtain⟨y,hy⟩:∃y,mm[j]? =some y:=⟨_,List.getElem?_eq_getElem (by rw[←HNM.out];exact hjl)⟩
                 obtain⟨gy,ay,cy,capy,ey,hyv,hcell,hgy⟩:=alts_at (HM2.out _ HB24.out) j y hy;injection ey with ey1 eyn ey2
                 clear eyn;subst ey1 ey2;have hcy:=hcell wr (Below.refl _ _);have HYI:=qq hy;have hyl:=HMO.out y (List.mem_of_getElem? hy);have HYV:=qq (row_be hyv (Below.refl _ _));have HXR:=qq (HXW.out wr HB4.out)
                 have HUN:Hid (uni ltA [] (pEach (acc.take p) mm ++(mm.take (j+1)).map (fun y=>pSet (x ++y)))=ins ltA (pSet (x ++y)) (uni ltA [] (pEach (acc.take p) mm ++(mm.take j).map (fun y=>pSet (x ++y))))):=qq (by rw[map_take hy,←List.append_assoc];exact uni_snoc _ _ _);obtain⟨ny,hny⟩:∃q,q=y.length:=⟨_,rfl⟩
                 have HNY:=qq hny;rw[←hny] at HYV hcy hyl;have hbe:Below wr.heap.size wr (wr.alloc (.cells #[] 9)):=(Below.refl _ _).alloc (Nat.le_refl _) _;have HROW:=qq (own_emptyB wr w2.heap.size 9 1 (by omega));have HXA:=qq (row_be HXR.out hbe);have HYA:=qq (row_be HYV.out hbe);have HBE:=qq hbe;clear hcell hyv hny hy hcx hbe
                 go_wp2_with (at_builtin;refine wpList_append_rows rfl (.tmp 80) (.tmp 81) 49 rfl w2.heap.size 9 j0 (.string ⟨#[]⟩) 1 16 Tryz.underlying49 fi fz fs fb rfl (by decide) _ 0 _ rfl HROW.out _ _ _ _ rfl HXA.out ?os1 ?as1 ?bs1 ?cs1 ?_)
                 (try(case os1=>exact enc_one _))
                 (try(case as1=>unfold maxLen;omega))
                 (try(case bs1=>omega))
                 (try(case cs1=>(try simp);omega))
                 intro v5 w5 hown hgrow hat;have hB5:Below wr.heap.size wr w5:=HBE.out.grown hgrow HBE.out.size (fun q hq=>by have hq':some wr.heap.size=some q:=hq;injection hq' with hq';omega);have HR5:Hid (w5.ownsRow w2.heap.size 9 1 v5 nx (x.map encStr)):=qq (by simpa using hown);have HY5:=qq (row_be HYV.out hB5);have HB5:=qq hB5;have hlt5:∀q,v5.ownBlock=some q→wr.heap.size≤q:=fun q hq=>by
                  rcases hat with h | h
                  · rw[h] at hq;have hq':some wr.heap.size=some q:=hq;injection hq' with hq';omega
                  · rw[h] at hq;(try simp only[World.size_alloc] at hq);injection hq with hq;omega
                 have HLT5:=qq hlt5;obtain⟨a5,c5,rfl⟩:=row_slice hown;clear hown hgrow hat hB5 hlt5;have hz5:=HB5.out.size;go_wp2_with (at_builtin;refine wpList_append_rows rfl (.tmp 82) (.tmp 83) 49 rfl w2.heap.size 9 j0 (.string ⟨#[]⟩) 1 16 Tryz.underlying49 fi fz fs fb rfl (by decide) _ nx _ rfl HR5.out _ _ _ _ rfl HY5.out ?or1 ?ar1 ?br1 ?cr1 ?_)
                 (try(case or1=>exact enc_one _))
                 (try(case ar1=>unfold maxLen;omega))
                 (try(case br1=>omega))
                 (try(case cr1=>(try simp);omega))
                 intro v6 w6 hown hgrow hat;have hB6:Below wr.heap.size wr w6:=HB5.out.grown hgrow HB5.out.size (fun q hq=>HLT5.out q hq);have HR6:Hid (AltV w2.heap.size w6 v6 (x ++y)):=qq (by
                   have e:(x ++y).length=nx+ny:=by rw[List.length_append,←HNX.out,←HNY.out]
                   show w6.ownsRow w2.heap.size 9 1 v6 (x ++y).length ((x ++y).map encStr)
                   rw[e,List.map_append];exact hown)
                 have HB6:=qq hB6;have HST:=qq (set_of w2.heap.size v6 (x ++y) w6 HR6.out (by rw[List.length_append,←HNX.out,←HNY.out];omega));have hz6:=hB6.size;clear hown hgrow hat hB6;go_wp2_with fail;refine HST.out.mono ?_;rintro e w7 ⟨v7,rfl,hv7,hb7⟩;have hb17:=below_then HB6.out hb7;have hz7:=hb7.size
                 have HPUT:=qq (put_of w.heap.size (.slice a4 m4 c4) v7 (uni ltA [] (pEach (acc.take p) mm ++(mm.take j).map (fun y=>pSet (x ++y)))) (pSet (x ++y)) w7 (HO4.out.below hb17) (row_base hv7 (by omega)) (uni_ris toA _ _ List.Pairwise.nil) (by rw[←HM4.out];omega) (uni_one (fun a ha=>by cases ha) (fun a ha=>by
                   rcases List.mem_append.1 ha with h | h
                   · have:=(each_mem (m:=250) (k:=250) (fun z hz=>HAO.out z (List.mem_of_mem_take hz)) (fun z hz=>HMO.out z hz) a h).2;omega
                   · obtain⟨z,hz,rfl⟩:=List.mem_map.1 h;have h1:=pSet_len (x ++z);rw[List.length_append] at h1;have:=HMO.out z (List.mem_of_mem_take hz);have:=HNX.out;omega)) (by have h1:=pSet_len (x ++y);rw[List.length_append] at h1;have:=HNX.out;have:=HNY.out;omega) (by omega))
                 have HB17:=qq (below_then HB4.out hb17);clear hv7 hb7 hb17 HST;go_wp2_with fail;refine HPUT.out.mono ?_;rintro e w8 ⟨v8,rfl,hv8,hb8⟩;rw[←HUN.out] at hv8;obtain⟨a8,c8,rfl⟩:=hv8.row;have HV8:=qq hv8;have HB8:=qq (below_then HB17.out hb8);have HL8:Hid ((uni ltA [] (pEach (acc.take p) mm ++(mm.take (j+1)).map (fun y=>pSet (x ++y)))).length≤5000):=qq (by
                   have h1:=@uni_len2 [] (pEach (acc.take p) mm ++(mm.take (j+1)).map (fun y=>pSet (x ++y)));rw[List.length_append,each_len,List.length_map,List.length_take,List.length_take,←HNM.out,←HNA.out] at h1;have h2:min p na*nm2≤64*64:=Nat.mul_le_mul (by omega) hml;simp only[List.length_nil] at h1;omega)
                 obtain⟨m8,hm8⟩:∃q,q=(uni ltA [] (pEach (acc.take p) mm ++(mm.take (j+1)).map (fun y=>pSet (x ++y)))).length:=⟨_,rfl⟩
                 rw[←hm8] at HV8 HL8⊢;have hm8l:=HL8.out;have HM8:=qq hm8;clear hv8 hb8 hm8 hcy HPUT;go_wp2_with fail;go_roundw
                 case rel=>exact⟨j+1,a8,m8,c8,by omega,hm8l,by first | rfl | exact True.intro,by go_num,HM8,HV8,HB8⟩
                 case measure=>simp[intOf];omega
               · obtain rfl:nm2=j:=by omega
                 have HEQ:Hid (pEach (acc.take p) mm ++(mm.take nm2).map (fun y=>pSet (x ++y))=pEach (acc.take (p+1)) mm):=qq (by rw[HNM.out,List.take_length,each_take HXI.out]);rw[HEQ.out] at HM4 HO4;go_wp2_with fail;go_roundw
                 case rel=>exact⟨p+1,a4,m4,c4,by omega,hm4,by first | rfl | exact True.intro,by go_num,HM4,HO4,HB24⟩
                 case measure=>simp[intOf];omega
            · obtain rfl:na=p:=by omega
              have HEQ:Hid (uni ltA [] (pEach (acc.take na) mm)=uni ltA [] (pEach raw mm)):=qq (by rw[HNA.out,List.take_length,HS.out.ris HOP3.out]);rw[HEQ.out] at HM3 HO3;have HK3:=qq (HK2.out.below HB3.out);have HB5:=qq (below_then HB2.out HB3.out);clear lk qk fk;by_cases h64:64<m3
              · have h64':(64:Int)<(m3:Int):=by omega
                have HF:Hid (R (.returned (.tuple #[.slice none 0 0,.bool false])) wr):=qq (HNO.out _ _ (HS.out.none_all HOP1.out HOP3.out HKI.out HPN.out (by rw[←HM3.out];exact h64)) HB5.out);go_wp2_with fail
                (try go_ret)
                exact HF.out
              · have h64':¬(64:Int)<(m3:Int):=by omega
                have HS4:=qq (HS.out.all_step HOP3.out HKI.out HPN.out (by rw[←HM3.out];omega));go_wp2_with fail;go_roundw
                case rel=>exact⟨i+1,_,_,by omega,by go_num,HS4,HO3,HK3,HB5⟩
                case measure=>simp[intOf];omega
        · obtain rfl:n=i:=by omega
          have HDONE:Hid (pNorm ⟨OP,nm,opt,kids⟩=if acc.length≤64 then some acc else none):=qq (by have h:=HS.out;rw[HN.out] at h;rw[h.done HOP1.out,←h.same]);by_cases h64:na≤64
          · have h64':(na:Int)≤64:=by omega
            have HF:Hid (R (.returned (.tuple #[.slice ao na co,.bool true])) wr):=qq (HYES.out _ _ _ (by rw[HDONE.out,if_pos (by rw[←HNA.out];exact h64)]) HO.out HB.out);go_wp2_with fail
            (try go_ret)
            exact HF.out
          · have h64':¬(na:Int)≤64:=by omega
            have HF:Hid (R (.returned (.tuple #[.slice ao na co,.bool false])) wr):=qq (HNO.out _ _ (by rw[HDONE.out,if_neg (by rw[←HNA.out];exact h64)]) HB.out);go_wp2_with fail
            (try go_ret)
            exact HF.out
      | false=>
       have HA0:Hid (AltsV 49 w.heap.size U (.slice (some ⟨w.heap.size+1,0,none⟩) 0 0) []):=qq ⟨#[],row_base HR1.out (by omega),HA1.out⟩;have HS0:Hid (NState OP kids 0 [] []):=qq (by have:=NState.start OP kids;rwa[if_neg (by simpa using hop2)] at this);clear h1 h3;obtain⟨lk,qk,fk⟩:=KB.out;go_enter Tryz.func32,Tryz.ntmps32;go_wp2_with fail;clear hU lk qk fk
       go_loopw [4,42] (fun ov cc wr=>∃(i:Nat) (acc raw:List PAlt),i≤n∧cc=.int .i64 (i:Int)∧Hid (NState OP kids i acc raw)∧Hid (AltsV 49 w.heap.size wr ov acc)∧Hid (Blk wr w.heap.size #[OP,.string ⟨nm.toArray⟩,.bool opt,.slice a n c])∧Hid (Below w.heap.size w wr)) (fun _ cc _=>n - (intOf cc).toNat)
       case atStart=>exact⟨0,[],[],by omega,by first | rfl | go_num,HS0,HA0,KB,HB1⟩
       case round=>
        obtain⟨i,acc,raw,hi,rfl,HS,HO,HK,HB⟩:=hrel;have hi0:(0:Int)≤(i:Int):=by omega
        have hwr:=HB.out.size;obtain⟨ao,co,rfl⟩:=HO.out.row;obtain⟨na,hna⟩:∃q,q=acc.length:=⟨_,rfl⟩
        have HNA:=qq hna;have hnal:=HS.out.acc_len (by rw[←HN.out];exact hi) H250.out;have HAO:=qq (HS.out.acc_one H250.out);have HAR:=qq HS.out.acc_ris;rw[←hna] at HO hnal⊢;clear hna;obtain⟨lk,qk,fk⟩:=HK.out;by_cases hlt:i<n
        · have hi1:(i:Int)<(n:Int):=by omega
          obtain⟨k,hk⟩:=PF.at_lt kids i (by rw[←HN.out];exact hlt);have hne:kids≠.nil:=by rintro rfl;cases hk
          obtain⟨b,o,rfl,hbB,hbE,hkt⟩:=HKC.out _ HB.out hne;obtain⟨c0,c1,c2,ka,kc,c3,hkk⟩:=KT.at kids i k b o hk hkt;have hbw:b<wr.heap.size:=by omega
          have hsm:=PF.small_at kids i k HSM.out hk;have hksz:=PF.at_sz kids i k hk;have HKI:=qq hk;have HCK:=qq (fun W (hb:Below wr.heap.size wr W)=>IH.out k ka kc B E W (by have:=HG.out;omega) (by have:=H250.out;omega) hsm.2.1 hsm.2.2 (hkk.below (by omega) hb) (by have:=hb.size;omega));obtain⟨kop,knm,kopt,kkids⟩:=k;simp only[encStr] at c1;dsimp only[exA] at c0 c1 c2 c3 HCK
          clear hne hkt hkk hsm hk hksz;go_wp2_with fail;have hba:Below wr.heap.size wr (wr.alloc (.cells #[kop,.string ⟨knm.toArray⟩,.bool kopt,.slice ka kkids.len kc] 38)):=(Below.refl _ _).alloc (Nat.le_refl _) _;refine(HCK.out _ hba).mono ?_;rintro e w2 ⟨hyes,hno⟩
          cases hpn:pNorm ⟨kop,knm,kopt,kkids⟩ with
          | none=>
           obtain⟨v2,rfl,hb2⟩:=hno hpn;have HF:Hid (R (.returned (.tuple #[.slice none 0 0,.bool false])) w2):=qq (HNO.out _ _ (HS.out.none_kid HOP1.out HKI.out hpn) (below_then (bel_alloc HB.out _) hb2));clear hyes hno hpn hb2 hba c0 c1 c2 c3;go_wp2_with fail
           (try go_ret)
           exact HF.out
          | some mm=>
           obtain⟨v2,rfl,hm2,hb2⟩:=hyes mm hpn;have hb02:=below_then hba hb2;have HB2:=qq (below_then HB.out hb02);have HK2:=qq (HK.out.below hb02);have HO2:=qq (HO.out.below hb02);have hz2:=HB2.out.size;have hbz:=hb2.size;have hmok:=(pNorm_ok hpn)
           have HM2:Hid (∀W,Below w2.heap.size w2 W→AltsV 49 w.heap.size W v2 mm):=qq (fun W hW=>(hm2.base (by simp;omega)).below hW);have hml:mm.length≤64:=hmok.2;have HMO:Hid (∀a∈mm,a.length≤250):=qq (fun a ha=>by have:=(hmok.1.one a ha).2;have h1:=PF.at_sz kids i _ HKI.out;have:=H250.out;dsimp only at *;omega);obtain⟨am,cm,rfl⟩:=hm2.row;obtain⟨nm2,hnm2⟩:∃q,q=mm.length:=⟨_,rfl⟩
           have HNM:=qq hnm2;have HPN:=qq hpn;rw[←hnm2] at hml HM2⊢;clear hyes hno hpn hm2 hmok hnm2 c0 c1 c2 c3 hba hb02 hb2 lk qk fk;obtain⟨lk,qk,fk⟩:=HK2.out;have hna64:na≤64:=by have h1:=HS.out.len HOP3.out;have h2:=HS.out.ris HOP3.out;have h3:=HNA.out;rw[h2] at h1;omega
           have hO2:Hid (∀W,Below w2.heap.size w2 W→AltsV 49 w.heap.size W (.slice ao na co) acc):=qq (fun W hW=>HO2.out.below hW);go_wp2_with fail
           go_loopw [11,69] (fun ov cc wr=>∃(p:Nat) (a3:Option Addr) (m3 c3:Nat),p≤na∧m3≤5000∧ov=.slice a3 m3 c3∧cc=.int .i64 (p:Int)∧Hid (m3=(uni ltA [] (pEach (acc.take p) mm)).length)∧Hid (AltsV 49 w.heap.size wr ov (uni ltA [] (pEach (acc.take p) mm)))∧Hid (Below w2.heap.size w2 wr)) (fun _ cc _=>na - (intOf cc).toNat)
           case atStart=>exact⟨0,some ⟨w2.heap.size,0,none⟩,0,0,by omega,by omega,by first | rfl | exact True.intro,by first | rfl | go_num,qq rfl,qq (by have e:uni ltA [] (pEach (acc.take 0) mm)=[]:=rfl;rw[e];exact⟨#[],own_emptyB w2 w.heap.size _ _ HB2.out.size,rfl,fun i hi=>by simp at hi⟩),qq ((Below.refl _ _).alloc (Nat.le_refl _) _)⟩
           case round=>
            obtain⟨p,a3,m3,c3,hp,hm3,rfl,rfl,HM3,HO3,HB3⟩:=hrel;have hp0:(0:Int)≤(p:Int):=by omega
            have hz3:=HB3.out.size;by_cases hpl:p<na
            · have hp1:(p:Int)<(na:Int):=by omega
              obtain⟨x,hx⟩:∃x,acc[p]? =some x:=⟨_,List.getElem?_eq_getElem (by rw[←HNA.out];exact hpl)⟩
              have HXI:=qq hx;have HHX:Hid (∀W,Below w2.heap.size w2 W→∃g ax cx cap,ao=some ⟨g,0,none⟩∧AltV w.heap.size W (.slice ax x.length cx) x∧W.cell? ⟨g,p,none⟩=some (.slice ax x.length cx)∧g<W.heap.size):=qq (fun W hW=>by
                obtain⟨g,ax,cx,cap,e1,e2,e3,e4⟩:=alts_at (hO2.out W hW) p x hx;injection e1 with e1
                exact⟨g,ax,cx,cap,e1,e2,e3 W (Below.refl _ _),e4⟩)
              obtain⟨gx,ax,cx,cap,rfl,hxv,hcx,hgl⟩:=HHX.out _ HB3.out;have hxl:=HAO.out x (List.mem_of_getElem? hx);have HXV:=qq hxv;have HXW:=qq (fun W (hW:Below wr.heap.size wr W)=>row_be HXV.out hW);have HB3K:=HB3;obtain⟨nx,hnx⟩:∃q,q=x.length:=⟨_,rfl⟩
              have HNX:=qq hnx;rw[←hnx] at hcx hxl HXW;clear hxv hnx hx HHX HXV;obtain⟨W3,hW3⟩:∃W3,W3=wr:=⟨_,rfl⟩
              rw[←hW3] at HO3 HB3 HB3K HXW hz3;have HW3:=qq hW3;clear hW3;go_wp2_with fail
              go_loopw [11,75] (fun ov cc wr=>∃(j:Nat) (a4:Option Addr) (m4 c4:Nat),j≤nm2∧m4≤5000∧ov=.slice a4 m4 c4∧cc=.int .i64 (j:Int)∧Hid (m4=(uni ltA [] (pEach (acc.take p) mm ++(mm.take j).map (fun y=>pSet (x ++y)))).length)∧Hid (AltsV 49 w.heap.size wr ov (uni ltA [] (pEach (acc.take p) mm ++(mm.take j).map (fun y=>pSet (x ++y)))))∧Hid (Below W3.heap.size W3 wr)) (fun _ cc _=>nm2 - (intOf cc).toNat)
              case atStart=>exact⟨0,a3,m3,c3,by omega,by omega,by first | rfl | exact True.intro,by first | rfl | go_num,qq (by rw[HM3.out];simp),qq (by have:=HO3.out;rw[HW3.out] at this;simpa using this),qq (by rw[HW3.out];exact Below.refl _ _)⟩
              case round=>
               obtain⟨j,a4,m4,c4,hj,hm4,rfl,rfl,HM4,HO4,HB4⟩:=hrel;have hj0:(0:Int)≤(j:Int):=by omega
               have hz4:=HB4.out.size;have HB24:=qq (below_then HB3.out HB4.out);by_cases hjl:j<nm2
               · have hj1:(j:Int)<(nm2:Int):=by omega
                 obtain⟨y,hy⟩:∃y,mm[j]? =some y:=⟨_,List.getElem?_eq_getElem (by rw[←HNM.out];exact hjl)⟩
                 obtain⟨gy,ay,cy,capy,ey,hyv,hcell,hgy⟩:=alts_at (HM2.out _ HB24.out) j y hy;injection ey with ey1 eyn ey2
                 clear eyn;subst ey1 ey2;have hcy:=hcell wr (Below.refl _ _);have HYI:=qq hy;have hyl:=HMO.out y (List.mem_of_getElem? hy);have HYV:=qq (row_be hyv (Below.refl _ _));have HXR:=qq (HXW.out wr HB4.out)
                 have HUN:Hid (uni ltA [] (pEach (acc.take p) mm ++(mm.take (j+1)).map (fun y=>pSet (x ++y)))=ins ltA (pSet (x ++y)) (uni ltA [] (pEach (acc.take p) mm ++(mm.take j).map (fun y=>pSet (x ++y))))):=qq (by rw[map_take hy,←List.append_assoc];exact uni_snoc _ _ _);obtain⟨ny,hny⟩:∃q,q=y.length:=⟨_,rfl⟩
                 have HNY:=qq hny;rw[←hny] at HYV hcy hyl;have hbe:Below wr.heap.size wr (wr.alloc (.cells #[] 9)):=(Below.refl _ _).alloc (Nat.le_refl _) _;have HROW:=qq (own_emptyB wr w2.heap.size 9 1 (by omega));have HXA:=qq (row_be HXR.out hbe);have HYA:=qq (row_be HYV.out hbe);have HBE:=qq hbe;clear hcell hyv hny hy hcx hbe
                 go_wp2_with (at_builtin;refine wpList_append_rows rfl (.tmp 80) (.tmp 81) 49 rfl w2.heap.size 9 j0 (.string ⟨#[]⟩) 1 16 Tryz.underlying49 fi fz fs fb rfl (by decide) _ 0 _ rfl HROW.out _ _ _ _ rfl HXA.out ?os2 ?as2 ?bs2 ?cs2 ?_)
                 (try(case os2=>exact enc_one _))
                 (try(case as2=>unfold maxLen;omega))
                 (try(case bs2=>omega))
                 (try(case cs2=>(try simp);omega))
                 intro v5 w5 hown hgrow hat;have hB5:Below wr.heap.size wr w5:=HBE.out.grown hgrow HBE.out.size (fun q hq=>by have hq':some wr.heap.size=some q:=hq;injection hq' with hq';omega);have HR5:Hid (w5.ownsRow w2.heap.size 9 1 v5 nx (x.map encStr)):=qq (by simpa using hown);have HY5:=qq (row_be HYV.out hB5);have HB5:=qq hB5;have hlt5:∀q,v5.ownBlock=some q→wr.heap.size≤q:=fun q hq=>by
                  rcases hat with h | h
                  · rw[h] at hq;have hq':some wr.heap.size=some q:=hq;injection hq' with hq';omega
                  · rw[h] at hq;(try simp only[World.size_alloc] at hq);injection hq with hq;omega
                 have HLT5:=qq hlt5;obtain⟨a5,c5,rfl⟩:=row_slice hown;clear hown hgrow hat hB5 hlt5;have hz5:=HB5.out.size;go_wp2_with (at_builtin;refine wpList_append_rows rfl (.tmp 82) (.tmp 83) 49 rfl w2.heap.size 9 j0 (.string ⟨#[]⟩) 1 16 Tryz.underlying49 fi fz fs fb rfl (by decide) _ nx _ rfl HR5.out _ _ _ _ rfl HY5.out ?or2 ?ar2 ?br2 ?cr2 ?_)
                 (try(case or2=>exact enc_one _))
                 (try(case ar2=>unfold maxLen;omega))
                 (try(case br2=>omega))
                 (try(case cr2=>(try simp);omega))
                 intro v6 w6 hown hgrow hat;have hB6:Below wr.heap.size wr w6:=HB5.out.grown hgrow HB5.out.size (fun q hq=>HLT5.out q hq);have HR6:Hid (AltV w2.heap.size w6 v6 (x ++y)):=qq (by
                   have e:(x ++y).length=nx+ny:=by rw[List.length_append,←HNX.out,←HNY.out]
                   show w6.ownsRow w2.heap.size 9 1 v6 (x ++y).length ((x ++y).map encStr)
                   rw[e,List.map_append];exact hown)
                 have HB6:=qq hB6;have HST:=qq (set_of w2.heap.size v6 (x ++y) w6 HR6.out (by rw[List.length_append,←HNX.out,←HNY.out];omega));have hz6:=hB6.size;clear hown hgrow hat hB6;go_wp2_with fail;refine HST.out.mono ?_;rintro e w7 ⟨v7,rfl,hv7,hb7⟩;have hb17:=below_then HB6.out hb7;have hz7:=hb7.size
                 have HPUT:=qq (put_of w.heap.size (.slice a4 m4 c4) v7 (uni ltA [] (pEach (acc.take p) mm ++(mm.take j).map (fun y=>pSet (x ++y)))) (pSet (x ++y)) w7 (HO4.out.below hb17) (row_base hv7 (by omega)) (uni_ris toA _ _ List.Pairwise.nil) (by rw[←HM4.out];omega) (uni_one (fun a ha=>by cases ha) (fun a ha=>by
                   rcases List.mem_append.1 ha with h | h
                   · have:=(each_mem (m:=250) (k:=250) (fun z hz=>HAO.out z (List.mem_of_mem_take hz)) (fun z hz=>HMO.out z hz) a h).2;omega
                   · obtain⟨z,hz,rfl⟩:=List.mem_map.1 h;have h1:=pSet_len (x ++z);rw[List.length_append] at h1;have:=HMO.out z (List.mem_of_mem_take hz);have:=HNX.out;omega)) (by have h1:=pSet_len (x ++y);rw[List.length_append] at h1;have:=HNX.out;have:=HNY.out;omega) (by omega))
                 have HB17:=qq (below_then HB4.out hb17);clear hv7 hb7 hb17 HST;go_wp2_with fail;refine HPUT.out.mono ?_;rintro e w8 ⟨v8,rfl,hv8,hb8⟩;rw[←HUN.out] at hv8;obtain⟨a8,c8,rfl⟩:=hv8.row;have HV8:=qq hv8;have HB8:=qq (below_then HB17.out hb8);have HL8:Hid ((uni ltA [] (pEach (acc.take p) mm ++(mm.take (j+1)).map (fun y=>pSet (x ++y)))).length≤5000):=qq (by
                   have h1:=@uni_len2 [] (pEach (acc.take p) mm ++(mm.take (j+1)).map (fun y=>pSet (x ++y)));rw[List.length_append,each_len,List.length_map,List.length_take,List.length_take,←HNM.out,←HNA.out] at h1;have h2:min p na*nm2≤64*64:=Nat.mul_le_mul (by omega) hml;simp only[List.length_nil] at h1;omega)
                 obtain⟨m8,hm8⟩:∃q,q=(uni ltA [] (pEach (acc.take p) mm ++(mm.take (j+1)).map (fun y=>pSet (x ++y)))).length:=⟨_,rfl⟩
                 rw[←hm8] at HV8 HL8⊢;have hm8l:=HL8.out;have HM8:=qq hm8;clear hv8 hb8 hm8 hcy HPUT;go_wp2_with fail;go_roundw
                 case rel=>exact⟨j+1,a8,m8,c8,by omega,hm8l,by first | rfl | exact True.intro,by go_num,HM8,HV8,HB8⟩
                 case measure=>simp[intOf];omega
               · obtain rfl:nm2=j:=by omega
                 have HEQ:Hid (pEach (acc.take p) mm ++(mm.take nm2).map (fun y=>pSet (x ++y))=pEach (acc.take (p+1)) mm):=qq (by rw[HNM.out,List.take_length,each_take HXI.out]);rw[HEQ.out] at HM4 HO4;go_wp2_with fail;go_roundw
                 case rel=>exact⟨p+1,a4,m4,c4,by omega,hm4,by first | rfl | exact True.intro,by go_num,HM4,HO4,HB24⟩
                 case measure=>simp[intOf];omega
            · obtain rfl:na=p:=by omega
              have HEQ:Hid (uni ltA [] (pEach (acc.take na) mm)=uni ltA [] (pEach raw mm)):=qq (by rw[HNA.out,List.take_length,HS.out.ris HOP3.out]);rw[HEQ.out] at HM3 HO3;have HK3:=qq (HK2.out.below HB3.out);have HB5:=qq (below_then HB2.out HB3.out);clear lk qk fk;by_cases h64:64<m3
              · have h64':(64:Int)<(m3:Int):=by omega
                have HF:Hid (R (.returned (.tuple #[.slice none 0 0,.bool false])) wr):=qq (HNO.out _ _ (HS.out.none_all HOP1.out HOP3.out HKI.out HPN.out (by rw[←HM3.out];exact h64)) HB5.out);go_wp2_with fail
                (try go_ret)
                exact HF.out
              · have h64':¬(64:Int)<(m3:Int):=by omega
                have HS4:=qq (HS.out.all_step HOP3.out HKI.out HPN.out (by rw[←HM3.out];omega));go_wp2_with fail;go_roundw
                case rel=>exact⟨i+1,_,_,by omega,by go_num,HS4,HO3,HK3,HB5⟩
                case measure=>simp[intOf];omega
        · obtain rfl:n=i:=by omega
          have HDONE:Hid (pNorm ⟨OP,nm,opt,kids⟩=if acc.length≤64 then some acc else none):=qq (by have h:=HS.out;rw[HN.out] at h;rw[h.done HOP1.out,←h.same]);by_cases h64:na≤64
          · have h64':(na:Int)≤64:=by omega
            have HF:Hid (R (.returned (.tuple #[.slice ao na co,.bool true])) wr):=qq (HYES.out _ _ _ (by rw[HDONE.out,if_pos (by rw[←HNA.out];exact h64)]) HO.out HB.out);go_wp2_with fail
            (try go_ret)
            exact HF.out
          · have h64':¬(na:Int)≤64:=by omega
            have HF:Hid (R (.returned (.tuple #[.slice ao na co,.bool false])) wr):=qq (HNO.out _ _ (by rw[HDONE.out,if_neg (by rw[←HNA.out];exact h64)]) HB.out);go_wp2_with fail
            (try go_ret)
            exact HF.out
end Go.Proofs.YtbepkpjcjpmpmaaGreatDoor
