/- ReD, ReE, PolZ, Al29 -/
import Derived.Test.YtbepkpjcjpmpmaaGreatDoorBReC
set_option linter.unusedSimpArgs false
set_option linter.unusedVariables false
set_option maxRecDepth 100000
set_option maxHeartbeats 16000000
namespace Go.Proofs.YtbepkpjcjpmpmaaGreatDoor
open Go.RowKit Go.Shelf
theorem read_name (g : Nat) (ih : ∀ g', g' ≤ g → ReadAt g') (S : PStr) (p d : Nat) (w : World) (c : UInt8) (t : PStr) (hp : p ≤ S.length) (hg : 2 * (S.length - p) + 1 ≤ g + 1) (hS : S.length ≤ 20000) (hd1 : 1 ≤ d) (hd : d ≤ 13) (hdd : ¬ 12 < d) (hsp : S.drop p = c :: t) (h40 : ¬ c = 40) (h91 : ¬ c = 91) :
    Calls Tryz.prog 42 #[.string ⟨S.toArray⟩,.int .i64 (p:Int),.int .i64 (d:Int)] w (ReadEnds (rrGo (g+1) d (S.drop p) none) S.length w):=by
 obtain⟨i0,ei,ez,es,eb⟩:=info_parts infoREx;have HH:=qq ih
 have HYES:Hid (∀o n b k t a c w',rrGo (g+1) d (S.drop p) none=some (.cons o n b k .nil,t)→KC w.heap.size w'.heap.size w' k a→Below w.heap.size w w'→ReadEnds (rrGo (g+1) d (S.drop p) none) S.length w (.returned (.tuple #[.agg #[o,.string ⟨n.toArray⟩,.bool b,.slice a k.len c],.int .i64 ((S.length:Int) - (t.length:Int))])) w'):=qq (fun o n b k t a c w' h1 h2 h3=>⟨fun o2 n2 b2 k2 t2 h=>(by rw[h1] at h;injection h with h;injection h with h h4;injection h with e1 e2 e3 e4;subst e1 e2 e3 e4 h4;exact⟨a,c,rfl,h2,h3⟩),fun h=>(by rw[h1] at h;cases h)⟩)
 have HNO:Hid (∀w',rrGo (g+1) d (S.drop p) none=none→Below w.heap.size w w'→ReadEnds (rrGo (g+1) d (S.drop p) none) S.length w (.returned (.tuple #[.agg exZ,.int .i64 (-1)])) w'):=qq (fun w' h1 h2=>⟨fun o n b k t h=>(by rw[h1] at h;cases h),fun _=>⟨rfl,h2⟩⟩);generalize ReadEnds (rrGo (g+1) d (S.drop p) none) S.length w=R at HYES HNO⊢;obtain⟨Q,hQ⟩:∃Q,Q=rrGo (g+1) d (S.drop p) none:=⟨_,rfl⟩
 rw[←hQ] at HYES HNO;have HQ:=qq hQ;have HI:=qq (fun(i:Nat) (c:UInt8) (h:S[i]? =some c)=>str_index h);have hsz:=str_size S;have HNN:Hid (S.length=S.length):=qq rfl;obtain⟨N,hN⟩:∃N,N=S.length:=⟨_,rfl⟩
 have HN:=qq hN;rw[←hN] at hp hg hS hsz HYES;clear hQ hN ih HNN;have hp0:(0:Int)≤(p:Int):=by omega
 have hd0:(0:Int)≤(d:Int):=by omega
 have hd':¬(12:Int)<(d:Int):=by omega
 obtain⟨hc,ht,hpl⟩:=drop_cons hsp;rw[←HN.out] at hpl;have hpl1:(p:Int)<(N:Int):=by omega
 have hpl2:¬(N:Int)≤(p:Int):=by omega
 have hix:=HI.out p _ hc;have HQ2:Hid (Q=if isNm ((S.drop p).takeWhile isLet) then some (.cons 1 ((S.drop p).takeWhile isLet) (rHas 63 ((S.drop p).dropWhile isLet)).isSome .nil .nil,(rHas 63 ((S.drop p).dropWhile isLet)).getD ((S.drop p).dropWhile isLet)) else none):=qq (by rw[HQ.out,hsp];exact rr_leaf g d c t hdd h40 h91);have hc1:(((c.toNat:Nat):Int)==40)=false:=by
  have h1:c.toNat≠40:=fun h=>h40 (UInt8.toNat_inj.1 h)
  simp;omega
 have hc2:(((c.toNat:Nat):Int)==91)=false:=by
  have h1:c.toNat≠91:=fun h=>h91 (UInt8.toNat_inj.1 h)
  simp;omega
 have HLT:=qq rletter_of;have HDI:Hid (∀j,(S.drop p)[j]? =S[p+j]?):=qq (fun j=>by rw[List.getElem?_drop]);have HDL:Hid ((S.drop p).length=N - p):=qq (by rw[List.length_drop,←HN.out]);have HNMO:=qq (fun(x:PStr) W (h:x.length≤100000)=>rname_of x W h);clear hc ht hsp h40 h91 HQ
 obtain⟨W0,hW0⟩:∃W0,W0=((w.alloc (.cells exZ 38)).alloc (.cells exZ 38)).alloc (.cells #[.int .i64 1,.string ⟨#[]⟩,.bool false,.slice none 0 0] 38):=⟨_,rfl⟩
 have HX:Hid (Blk W0 (w.heap.size+1+1) #[.int .i64 1,.string ⟨#[]⟩,.bool false,.slice none 0 0]):=qq (by rw[hW0];exact Blk.fresh _ _ _ _ (by simp));have HZ:Hid (Blk W0 (w.heap.size+1) exZ):=qq (by rw[hW0];exact(Blk.fresh _ _ _ _ (by simp)).alloc _);have HP:Hid (W0.heap[w.heap.size]? =some (.cells exZ 38 (0,0))):=qq (by rw[hW0];exact hp_al (hp_al (hp_new _ rfl) _) _)
 have HB:Hid (Below w.heap.size w W0):=qq (by rw[hW0];go_grown);have HW0:=qq hW0;have hwz:w.heap.size+1+1<W0.heap.size:=HX.out.lt;clear hW0;go_enter Tryz.func42,Tryz.ntmps42;go_wp2_with fail;clear hix hc1 hc2;go_loopw [1] (fun av wr=>wr=W0∧∃k:Nat,p+k≤N∧av=.int .i64 ((p+k:Nat):Int)∧Hid (∀(j:Nat) (c:UInt8),j<k→(S.drop p)[j]? =some c→isLet c=true)) (fun av _=>N - (intOf av).toNat)
 case atStart=>exact⟨HW0.out.symm,0,by omega,by first | rfl | go_num,qq (fun j c h=>by omega)⟩
 case round=>
  obtain⟨hwr,k,hk,rfl,HA⟩:=hrel;have hwr2:=hwr.symm;clear hwr;subst hwr2;obtain⟨q,hq⟩:∃q,q=p+k:=⟨_,rfl⟩
  have HQK:=qq hq;rw[←hq] at hk⊢;clear hq;have hq0:(0:Int)≤(q:Int):=by omega
  by_cases hlt:q<N
  · have hk1:(q:Int)<(N:Int):=by omega
    obtain⟨x,hx⟩:∃x,S[q]? =some x:=⟨_,List.getElem?_eq_getElem (by rw[←HN.out];exact hlt)⟩
    have hix:=HI.out q x hx;have HXI:Hid ((S.drop p)[k]? =some x):=qq (by rw[HDI.out,←HQK.out];exact hx);have HSQ:=qq hx;clear hx
    cases hq:isLet x with
    | true=>
     have HLC:=qq (HLT.out x);rw[hq] at HLC;have HQQ:=qq hq;clear hq;go_wp2_with fail;refine(HLC.out _).mono ?_;rintro e w2 ⟨rfl,rfl⟩;go_wp2_with fail;have HA2:Hid (∀(j:Nat) (c:UInt8),j<k+1→(S.drop p)[j]? =some c→isLet c=true):=qq (fun j y hj hy=>by
       rcases Nat.lt_or_ge j k with h | h
       · exact HA.out j y h hy
       · obtain rfl:j=k:=by omega
         rw[HXI.out] at hy;injection hy with hy
         rw[←hy];exact HQQ.out)
     have e1:((p+(k+1):Nat):Int)=(q:Int)+1:=by have:=HQK.out;omega
     go_roundw
     case rel=>exact⟨by first | rfl | exact True.intro,k+1,by have:=HQK.out;omega,by rw[e1],HA2⟩
     case measure=>simp[intOf];omega
    | false=>
     have HLC:=qq (HLT.out x);rw[hq] at HLC;have htd:=take_drop_no k x HA.out HXI.out hq;have HSR:Hid (∃u,(S.drop p).dropWhile isLet=x::u∧u.length+q+1=N):=qq (by
       rw[htd.2,List.drop_drop,←HQK.out];obtain⟨h1,h2⟩:=List.getElem?_eq_some_iff.1 HSQ.out;exact⟨S.drop (q+1),by rw[List.drop_eq_getElem_cons h1,h2],by rw[List.length_drop,←HN.out];omega⟩)
     obtain⟨u,hu,hul⟩:=HSR.out;have HTW:Hid ((S.drop p).takeWhile isLet=(S.drop p).take k):=qq htd.1;rw[hu,htd.1] at HQ2;obtain⟨nm,hnm⟩:∃nm,nm=(S.drop p).take k:=⟨_,rfl⟩
     rw[←hnm] at HQ2;have hex:(⟨S.toArray⟩:ByteArray).extract p q=⟨nm.toArray⟩:=by rw[hnm,HQK.out];exact ex_mid S p k
     have HNM:=qq (fun W=>HNMO.out nm W (by rw[hnm,List.length_take,HDL.out];omega));have hpq:(p:Int)≤(q:Int):=by have:=HQK.out;omega
     have hqn:(q:Int)≤(N:Int):=by omega
     clear hq htd hu HSR hnm HTW;obtain⟨lx,qx,fx⟩:=HX.out;go_wp2_with fail;refine(HLC.out _).mono ?_;rintro e w2 ⟨rfl,hw2⟩;subst hw2
     cases hok:isNm nm with
     | false=>
      rw[hok] at HNM;have HF:=qq (fun w' hw=>HNO.out w' (by rw[HQ2.out,hok];rfl) hw);go_wp2_with fail;refine(HNM.out _).mono ?_;rintro e w3 ⟨rfl,hw3⟩;subst hw3;have HPN:=qq (hp_st HP.out (p:=⟨w.heap.size+1+1,1,none⟩) (by dsimp only;omega) (.string ⟨nm.toArray⟩));have HBN:=qq (bel_set HB.out (p:=⟨w.heap.size+1+1,1,none⟩) (by dsimp only;omega) (.string ⟨nm.toArray⟩));obtain⟨lz,qz,fz⟩:=HZ.out
      go_wp2_with (refine row_go 38 (.tmp 6) (.tmp 60) rfl rfl w.heap.size exZ exZ 38 HPN.out rfl rfl (by kernel_rfl) rfl (by simp[exZ,Value.oneCell']) ?_);intro w9 hb9 hg9;have HEND:=qq (HF.out w9 (bel_gr HBN.out hg9 (Nat.le_refl _)));obtain⟨l9,q9,f9⟩:=hb9;clear qz fz lz qx fx;go_wp2_with fail
      exact bodyPost_ret (v:=.tuple #[.agg exZ,.int .i64 (-1)]) (by simp[results,Tryz.results42,go_sem,q9,f9,exZ]) rfl HEND.out
     | true=>
      rw[hok] at HNM;by_cases hxq:x=63
      · have hxv:(((x.toNat:Nat):Int)==63)=true:=by subst hxq;rfl
        have HQF:Hid (Q=some (.cons 1 nm true .nil .nil,u)):=qq (by rw[HQ2.out,hok];subst hxq;rfl);have hulv:((N:Int) - (u.length:Int))=(q:Int)+1:=by omega
        have HFF:=qq (fun w'=>HYES.out 1 nm true .nil u none 0 w' HQF.out KC.nil);rw[hulv] at HFF;clear hok hxq hulv hul;go_wp2_with fail;refine(HNM.out _).mono ?_;rintro e w3 ⟨rfl,hw3⟩;subst hw3;have HPN:=qq (hp_st (hp_st HP.out (p:=⟨w.heap.size+1+1,1,none⟩) (by dsimp only;omega) (.string ⟨nm.toArray⟩)) (p:=⟨w.heap.size+1+1,2,none⟩) (by dsimp only;omega) (.bool true))
        have HBN:=qq (bel_set (bel_set HB.out (p:=⟨w.heap.size+1+1,1,none⟩) (by dsimp only;omega) (.string ⟨nm.toArray⟩)) (p:=⟨w.heap.size+1+1,2,none⟩) (by dsimp only;omega) (.bool true));go_wp2_with (refine row_go 38 (.tmp 6) (.tmp 74) rfl rfl w.heap.size #[.int .i64 1,.string ⟨nm.toArray⟩,.bool true,.slice none 0 0] exZ 38 HPN.out rfl rfl (by kernel_rfl) rfl (by simp[Value.oneCell']) ?_)
        intro w9 hb9 hg9;have HEND:=qq (HFF.out w9 (bel_gr HBN.out hg9 (Nat.le_refl _)));obtain⟨l9,q9,f9⟩:=hb9;clear qx fx;go_wp2_with fail;exact bodyPost_ret (v:=.tuple #[.agg #[.int .i64 1,.string ⟨nm.toArray⟩,.bool true,.slice none 0 0],.int .i64 ((q:Int)+1)]) (by simp[results,Tryz.results42,go_sem,q9,f9]) rfl HEND.out
      · have hxv:(((x.toNat:Nat):Int)==63)=false:=by
         have h1:x.toNat≠63:=fun h=>hxq (UInt8.toNat_inj.1 h)
         simp;omega
        have HQF:Hid (Q=some (.cons 1 nm false .nil .nil,x::u)):=qq (by rw[HQ2.out,hok,rHas_no hxq];rfl);have hulv:((N:Int) - ((x::u).length:Int))=(q:Int):=by simp;omega
        have HFF:=qq (fun w'=>HYES.out 1 nm false .nil (x::u) none 0 w' HQF.out KC.nil);rw[hulv] at HFF;clear hok hxq hulv hul;go_wp2_with fail;refine(HNM.out _).mono ?_;rintro e w3 ⟨rfl,hw3⟩;subst hw3;have HPN:=qq (hp_st HP.out (p:=⟨w.heap.size+1+1,1,none⟩) (by dsimp only;omega) (.string ⟨nm.toArray⟩))
        have HBN:=qq (bel_set HB.out (p:=⟨w.heap.size+1+1,1,none⟩) (by dsimp only;omega) (.string ⟨nm.toArray⟩));go_wp2_with (refine row_go 38 (.tmp 6) (.tmp 74) rfl rfl w.heap.size #[.int .i64 1,.string ⟨nm.toArray⟩,.bool false,.slice none 0 0] exZ 38 HPN.out rfl rfl (by kernel_rfl) rfl (by simp[Value.oneCell']) ?_);intro w9 hb9 hg9;have HEND:=qq (HFF.out w9 (bel_gr HBN.out hg9 (Nat.le_refl _)))
        obtain⟨l9,q9,f9⟩:=hb9;clear qx fx;go_wp2_with fail;exact bodyPost_ret (v:=.tuple #[.agg #[.int .i64 1,.string ⟨nm.toArray⟩,.bool false,.slice none 0 0],.int .i64 ((q:Int))]) (by simp[results,Tryz.results42,go_sem,q9,f9]) rfl HEND.out
  · have hqN:q=N:=by omega
    have hk1:¬(q:Int)<(N:Int):=by omega
    have hkl:k=(S.drop p).length:=by rw[HDL.out];have:=HQK.out;omega
    have htd:=take_drop_all (s:=S.drop p) (fun j c hj hc=>HA.out j c (by omega) hc);have hdr:(S.drop p).drop (S.drop p).length=[]:=List.drop_length;rw[htd.1,htd.2,hdr,←hkl] at HQ2;obtain⟨nm,hnm⟩:∃nm,nm=(S.drop p).take k:=⟨_,rfl⟩
    rw[←hnm] at HQ2;have hex:(⟨S.toArray⟩:ByteArray).extract p q=⟨nm.toArray⟩:=by rw[hnm,HQK.out];exact ex_mid S p k
    have HNM:=qq (fun W=>HNMO.out nm W (by rw[hnm,List.length_take,HDL.out];omega));have hpq:(p:Int)≤(q:Int):=by have:=HQK.out;omega
    have hqn:(q:Int)≤(N:Int):=by omega
    have HQN:=qq hqN;clear htd hkl hdr hnm hqN hlt;obtain⟨lx,qx,fx⟩:=HX.out;go_wp2_with fail
    cases hok:isNm nm with
    | false=>
     rw[hok] at HNM;have HF:=qq (fun w' hw=>HNO.out w' (by rw[HQ2.out,hok];rfl) hw);go_wp2_with fail;refine(HNM.out _).mono ?_;rintro e w3 ⟨rfl,hw3⟩;subst hw3;have HPN:=qq (hp_st HP.out (p:=⟨w.heap.size+1+1,1,none⟩) (by dsimp only;omega) (.string ⟨nm.toArray⟩));have HBN:=qq (bel_set HB.out (p:=⟨w.heap.size+1+1,1,none⟩) (by dsimp only;omega) (.string ⟨nm.toArray⟩));obtain⟨lz,qz,fz⟩:=HZ.out
     go_wp2_with (refine row_go 38 (.tmp 6) (.tmp 60) rfl rfl w.heap.size exZ exZ 38 HPN.out rfl rfl (by kernel_rfl) rfl (by simp[exZ,Value.oneCell']) ?_);intro w9 hb9 hg9;have HEND:=qq (HF.out w9 (bel_gr HBN.out hg9 (Nat.le_refl _)));obtain⟨l9,q9,f9⟩:=hb9;clear qz fz lz qx fx;go_wp2_with fail
     exact bodyPost_ret (v:=.tuple #[.agg exZ,.int .i64 (-1)]) (by simp[results,Tryz.results42,go_sem,q9,f9,exZ]) rfl HEND.out
    | true=>
     rw[hok] at HNM;have HQF:Hid (Q=some (.cons 1 nm false .nil .nil,[])):=qq (by rw[HQ2.out,hok];rfl);have hulv:((N:Int) - (([]:PStr).length:Int))=(q:Int):=by rw[HQN.out];simp
     have HFF:=qq (fun w'=>HYES.out 1 nm false .nil [] none 0 w' HQF.out KC.nil);rw[hulv] at HFF;clear hok hulv;go_wp2_with fail;refine(HNM.out _).mono ?_;rintro e w3 ⟨rfl,hw3⟩;subst hw3;have HPN:=qq (hp_st HP.out (p:=⟨w.heap.size+1+1,1,none⟩) (by dsimp only;omega) (.string ⟨nm.toArray⟩));have HBN:=qq (bel_set HB.out (p:=⟨w.heap.size+1+1,1,none⟩) (by dsimp only;omega) (.string ⟨nm.toArray⟩))
     go_wp2_with (refine row_go 38 (.tmp 6) (.tmp 74) rfl rfl w.heap.size #[.int .i64 1,.string ⟨nm.toArray⟩,.bool false,.slice none 0 0] exZ 38 HPN.out rfl rfl (by kernel_rfl) rfl (by simp[Value.oneCell']) ?_);intro w9 hb9 hg9;have HEND:=qq (HFF.out w9 (bel_gr HBN.out hg9 (Nat.le_refl _)));obtain⟨l9,q9,f9⟩:=hb9;clear qx fx;go_wp2_with fail
     exact bodyPost_ret (v:=.tuple #[.agg #[.int .i64 1,.string ⟨nm.toArray⟩,.bool false,.slice none 0 0],.int .i64 ((q:Int))]) (by simp[results,Tryz.results42,go_sem,q9,f9]) rfl HEND.out
theorem read_step (g:Nat) (ih:∀g',g'≤g→ReadAt g'):ReadAt (g+1):=by
 intro S p d w hp hg hS hd1 hd;by_cases hdd:12<d
 · exact read_deep g S p d w hS hd hdd
 cases hsp:S.drop p with
 | nil=>rw[←hsp];exact read_nil g S p d w hp hS hd hdd hsp
 | cons c t=>
  by_cases h40:c=40
  · subst h40;rw[←hsp];exact read_40 g ih S p d w t hp hg hS hd1 hd hdd hsp
  by_cases h91:c=91
  · subst h91;rw[←hsp];exact read_91 g ih S p d w t hp hg hS hd1 hd hdd hsp
  · rw[←hsp];exact read_name g ih S p d w c t hp hg hS hd1 hd hdd hsp h40 h91
theorem read_all (g:Nat):ReadAt g:=by
 have h:∀n g,g≤n→ReadAt g:=by
  intro n
  induction n with
  | zero=>
   intro g hg S p d w h1 h2;omega
  | succ n ih=>
   intro g hg;rcases Nat.lt_or_ge g (n+1) with h | h
   · exact ih g (by omega)
   · obtain rfl:g=n+1:=by omega
     exact read_step n ih
 exact h g g (Nat.le_refl _)
theorem PF.ext_at:∀(f h:PF),f.len=h.len→(∀i x y,f.at i=some x→h.at i=some y→x=y)→f=h
 | .nil,.nil,_,_=>rfl
 | .nil,.cons _ _ _ _ _,e,_=>by simp[PF.len] at e
 | .cons _ _ _ _ _,.nil,e,_=>by simp[PF.len] at e
 | .cons o n b k r,.cons o2 n2 b2 k2 r2,e,h=>by
  have h0:=h 0 _ _ rfl rfl;injection h0 with e1 e2 e3 e4
  subst e1 e2 e3 e4;rw[PF.ext_at r r2 (by simpa[PF.len] using e) (fun i x y h1 h2=>h (i+1) x y h1 h2)]
theorem str_eqb (s t:PStr):((⟨s.toArray⟩:ByteArray).toList==(⟨t.toArray⟩:ByteArray).toList)=(s==t):=by
 rw[ByteArray.toList_eq,ByteArray.toList_eq]
theorem rsame_go (g : Nat) : ∀ (e f : PE) (a a2 : Option Addr) (c c2 B E B2 E2 : Nat) (w : World), e.kids.sz < g → e.kids.len ≤ 100000 → e.kids.small → f.kids.len ≤ 100000 → f.kids.small → KC B E w e.kids a → E ≤ w.heap.size → KC B2 E2 w f.kids a2 → E2 ≤ w.heap.size →
    Calls Tryz.prog 19 #[.agg (exA e a c),.agg (exA f a2 c2)] w (Makes (.bool (decide (e=f))) w):=by
 induction g with
 | zero=>intro e f a a2 c c2 B E B2 E2 w hg;omega
 | succ g ih=>
  rintro⟨o1,n1,b1,k1⟩ ⟨o2,n2,b2,k2⟩ a a2 c c2 B E B2 E2 w hg hl1 hs1 hl2 hs2 hK1 hE1 hK2 hE2;unfold exA;dsimp only at hg hl1 hs1 hl2 hs2 hK1 hK2⊢;have IH:=qq ih;have HK1:=qq (fun W (hW:Below w.heap.size w W)=>hK1.below hE1 hW);have HK2:=qq (fun W (hW:Below w.heap.size w W)=>hK2.below hE2 hW);have HS1:=qq hs1;have HS2:=qq hs2;have HG:=qq hg;have HE1:E≤w.heap.size:=hE1;have HE2:E2≤w.heap.size:=hE2
  have HRES:Hid (∀(r:Bool) w',decide ((⟨o1,n1,b1,k1⟩:PE)=⟨o2,n2,b2,k2⟩)=r→Below w.heap.size w w'→Makes (.bool (decide ((⟨o1,n1,b1,k1⟩:PE)=⟨o2,n2,b2,k2⟩))) w (.returned (.bool r)) w'):=qq (fun r w' h1 h2=>⟨by rw[h1],h2⟩);generalize Makes (.bool (decide ((⟨o1,n1,b1,k1⟩:PE)=⟨o2,n2,b2,k2⟩))) w=R at HRES⊢
  have HNE:Hid ((⟨o1,n1,b1,k1⟩:PE)≠⟨o2,n2,b2,k2⟩→∀w',Below w.heap.size w w'→R (.returned (.bool false)) w'):=qq (fun h w' hw=>HRES.out false w' (decide_eq_false h) hw);have HEQ:Hid (o1=o2→n1=n2→b1=b2→k1=k2→∀w',Below w.heap.size w w'→R (.returned (.bool true)) w'):=qq (fun h1 h2 h3 h4 w' hw=>HRES.out true w' (by subst h1 h2 h3 h4;simp) hw);obtain⟨m1,hm1⟩:∃q,q=k1.len:=⟨_,rfl⟩
  obtain⟨m2,hm2⟩:∃q,q=k2.len:=⟨_,rfl⟩
  have HM1:=qq hm1;have HM2:=qq hm2;have hse:=str_eqb n1 n2;rw[←hm1] at hl1⊢;rw[←hm2] at hl2⊢;clear hK1 hE1 hK2 hE2 hs1 hs2 hg ih hm1 hm2 HRES
  have KB1:Hid (Blk ((w.alloc (.cells #[o1,.string ⟨n1.toArray⟩,.bool b1,.slice a m1 c] 38)).alloc (.cells #[o2,.string ⟨n2.toArray⟩,.bool b2,.slice a2 m2 c2] 38)) w.heap.size #[.int .i64 o1,.string ⟨n1.toArray⟩,.bool b1,.slice a m1 c]):=qq ((Blk.fresh w _ _ _ rfl).alloc _)
  have KB2:Hid (Blk ((w.alloc (.cells #[o1,.string ⟨n1.toArray⟩,.bool b1,.slice a m1 c] 38)).alloc (.cells #[o2,.string ⟨n2.toArray⟩,.bool b2,.slice a2 m2 c2] 38)) (w.heap.size+1) #[.int .i64 o2,.string ⟨n2.toArray⟩,.bool b2,.slice a2 m2 c2]):=qq (Blk.fresh _ _ _ _ (by simp))
  have HB0:Hid (Below w.heap.size w ((w.alloc (.cells #[o1,.string ⟨n1.toArray⟩,.bool b1,.slice a m1 c] 38)).alloc (.cells #[o2,.string ⟨n2.toArray⟩,.bool b2,.slice a2 m2 c2] 38))):=qq (by go_grown);by_cases ho:o1=o2
  case neg=>
   have HF:=qq (HNE.out (fun h=>ho (by injection h)));go_enter Tryz.func19,Tryz.ntmps19;go_wp2_with fail
   (try go_ret)
   exact HF.out _ HB0.out
  by_cases hn:n1=n2
  case neg=>
   have HF:=qq (HNE.out (fun h=>hn (by injection h)));subst ho;clear hse;go_enter Tryz.func19,Tryz.ntmps19;go_wp2_with fail
   (try go_ret)
   exact HF.out _ HB0.out
  by_cases hb:b1=b2
  case neg=>
   have HF:=qq (HNE.out (fun h=>hb (by injection h)));subst ho hn;have hbf:(b1==b2)=false:=by simpa using hb
   obtain rfl:b2= !b1:=by cases b1<;>cases b2<;>simp_all
   clear hb hbf hse
   cases b1<;>
   (go_enter Tryz.func19,Tryz.ntmps19
    go_wp2_with fail
    (try go_ret)
    exact HF.out _ HB0.out)
  by_cases hm:m1=m2
  case neg=>
   have HF:=qq (HNE.out (fun h=>hm (by injection h with _ _ _ h4;rw[HM1.out,HM2.out,h4])));subst ho hn hb;have hmf2:¬((m1:Int)=(m2:Int)):=by omega
   clear hse;go_enter Tryz.func19,Tryz.ntmps19;go_wp2_with fail
   (try go_ret)
   exact HF.out _ HB0.out
  subst ho hn hb hm;clear hse;have HEQ2:=qq (HEQ.out rfl rfl rfl);go_enter Tryz.func19,Tryz.ntmps19;go_wp2_with fail
  go_loopw [37] (fun cc wr=>∃i:Nat,i≤m1∧cc=.int .i64 (i:Int)∧Hid (∀j x y,j<i→k1.at j=some x→k2.at j=some y→x=y)∧Hid (Blk wr w.heap.size #[o1,.string ⟨n1.toArray⟩,.bool b1,.slice a m1 c])∧Hid (Blk wr (w.heap.size+1) #[o1,.string ⟨n1.toArray⟩,.bool b1,.slice a2 m1 c2])∧Hid (Below w.heap.size w wr)) (fun cc _=>m1 - (intOf cc).toNat)
  case atStart=>exact⟨0,by omega,by first | rfl | go_num,qq (fun j x y h=>by omega),KB1,KB2,HB0⟩
  case round=>
   obtain⟨i,hi,rfl,HA,HX,HY,HB⟩:=hrel;have hi0:(0:Int)≤(i:Int):=by omega
   by_cases hlt:i<m1
   · have hi1:(i:Int)<(m1:Int):=by omega
     obtain⟨x,hx⟩:=PF.at_lt k1 i (by rw[←HM1.out];exact hlt);obtain⟨y,hy⟩:=PF.at_lt k2 i (by rw[←HM2.out];exact hlt);obtain⟨bx,ox,rfl,hbB,hbE,hkt⟩:=HK1.out _ HB.out (by rintro rfl;cases hx);obtain⟨c0,c1,c2',ka,kc,c3,hkk⟩:=KT.at k1 i x bx ox hx hkt;obtain⟨by',oy,rfl,hbB2,hbE2,hkt2⟩:=HK2.out _ HB.out (by rintro rfl;cases hy);obtain⟨d0,d1,d2,ka2,kc2,d3,hkk2⟩:=KT.at k2 i y by' oy hy hkt2
     have hwr:=HB.out.size;have hbw:bx<wr.heap.size:=by omega
     have hbw2:by'<wr.heap.size:=by omega
     have hsm:=PF.small_at k1 i x HS1.out hx;have hsm2:=PF.small_at k2 i y HS2.out hy;have HCK:=qq (fun W (hb:Below wr.heap.size wr W)=>IH.out x y ka ka2 kc kc2 B E B2 E2 W (by have:=PF.at_sz k1 i x hx;have:=HG.out;omega) hsm.2.1 hsm.2.2 hsm2.2.1 hsm2.2.2 (hkk.below (by omega) hb) (by have:=hb.size;omega) (hkk2.below (by omega) hb) (by have:=hb.size;omega));have HXI:=qq hx;have HYI:=qq hy
     have HXY:Hid (x≠y→∀w',Below w.heap.size w w'→R (.returned (.bool false)) w'):=qq (fun h=>HNE.out (fun he=>by
       injection he with _ _ _ he
       subst he;rw[HXI.out] at hy;injection hy with hy
       exact h hy))
     have HAN:Hid (x=y→∀j x y,j<i+1→k1.at j=some x→k2.at j=some y→x=y):=qq (fun he j x2 y2 hj h1 h2=>by
       rcases Nat.lt_or_ge j i with h | h
       · exact HA.out j x2 y2 h h1 h2
       · obtain rfl:j=i:=by omega
         rw[HXI.out] at h1;rw[HYI.out] at h2;injection h1 with h1
         injection h2 with h2
         rw[←h1,←h2,he])
     obtain⟨r,hr⟩:∃r,r=decide (x=y):=⟨_,rfl⟩
     rw[←hr] at HCK;have HR:=qq hr;obtain⟨xo,xn,xb,xk⟩:=x;obtain⟨yo,yn,yb,yk⟩:=y;simp only[encStr] at c1 d1;dsimp only[exA] at c0 c1 c2' c3 d0 d1 d2 d3 HCK;have C0:=qq c0;have C1:=qq c1;have C2:=qq c2';have C3:=qq c3;have D0:=qq d0;have D1:=qq d1;have D2:=qq d2;have D3:=qq d3;clear hkt hkk hsm hx hkt2 hkk2 hsm2 hy hr c0 c1 c2' c3 d0 d1 d2 d3;go_wp2_with fail
     refine reg_start (fun w'=>Below wr.heap.size wr w') (by kernel_rfl) (Below.refl _ _).drew ?_;rintro w1 hHeld;refine takeM (d:=some 40) 0 rfl rfl hHeld (fun w' hS'=>by clear hS';go_simp;(try rfl)) ?_;simp only[puts];refine takeM (d:=some 41) 1 rfl rfl hHeld (fun w' hS'=>by have qx:=(HX.out.below hS').cell;clear hS';go_simp;(try rfl)) ?_;simp only[puts]
     refine takeM (d:=some 42) 2 rfl rfl hHeld (fun w' hS'=>by clear hS';go_simp;(try rfl)) ?_;simp only[puts];refine takeM (d:=some 43) 3 rfl rfl hHeld (fun w' hS'=>by clear hS';go_simp;(try rfl)) ?_;simp only[puts]
     refine takeM (d:=some 44) 4 rfl rfl hHeld (fun w' hS'=>by have q0:=(hS'.cell (p:=⟨bx,_,none⟩) hbw).trans C0.out;have q1:=(hS'.cell (p:=⟨bx,_,none⟩) hbw).trans C1.out;have q2:=(hS'.cell (p:=⟨bx,_,none⟩) hbw).trans C2.out;have q3:=(hS'.cell (p:=⟨bx,_,none⟩) hbw).trans C3.out;clear hS';go_simp;(try rfl)) ?_;simp only[puts]
     refine takeM (d:=some 45) 5 rfl rfl hHeld (fun w' hS'=>by clear hS';go_simp;(try rfl)) ?_;simp only[puts];refine takeM (d:=some 46) 6 rfl rfl hHeld (fun w' hS'=>by have qy:=(HY.out.below hS').cell;clear hS';go_simp;(try rfl)) ?_;simp only[puts];refine takeM (d:=some 47) 7 rfl rfl hHeld (fun w' hS'=>by clear hS';go_simp;(try rfl)) ?_;simp only[puts]
     refine takeM (d:=some 48) 8 rfl rfl hHeld (fun w' hS'=>by clear hS';go_simp;(try rfl)) ?_;simp only[puts]
     refine takeM (d:=some 49) 9 rfl rfl hHeld (fun w' hS'=>by have q0:=(hS'.cell (p:=⟨by',_,none⟩) hbw2).trans D0.out;have q1:=(hS'.cell (p:=⟨by',_,none⟩) hbw2).trans D1.out;have q2:=(hS'.cell (p:=⟨by',_,none⟩) hbw2).trans D2.out;have q3:=(hS'.cell (p:=⟨by',_,none⟩) hbw2).trans D3.out;clear hS';go_simp;(try rfl)) ?_;simp only[puts];refine one_M 10 (by kernel_rfl) ?_
     refine wpOp_call (d:=some 50) 10 19 _ _ [.agg #[xo,.string ⟨xn.toArray⟩,.bool xb,.slice ka xk.len kc],.agg #[yo,.string ⟨yn.toArray⟩,.bool yb,.slice ka2 yk.len kc2]] rfl rfl rfl (enters_of Tryz.func19 (by kernel_rfl) rfl) (by rfl) (by rfl) ?_;refine(HCK.out _ hHeld).mono ?_;rintro e w2 ⟨rfl,hb2⟩;refine ret_S (below_then hHeld hb2) (fun hHeld=> ?_);simp only[puts]
     refine takeM (d:=some 51) 11 rfl rfl hHeld (fun w' hS'=>by clear hS';go_simp;(try rfl)) ?_;simp only[puts];refine doneM (by kernel_rfl) ?_ _;have HBF:=qq (below_then HB.out hHeld);have HXF:=qq (HX.out.below hHeld);have HYF:=qq (HY.out.below hHeld)
     cases r with
     | true=>
      have HA2:=qq (HAN.out (of_decide_eq_true HR.out.symm));go_wp2_with fail;go_roundw
      case rel=>exact⟨i+1,by omega,by go_num,HA2,HXF,HYF,HBF⟩
      case measure=>simp[intOf];omega
     | false=>
      have HF:=qq (HXY.out (of_decide_eq_false HR.out.symm));go_wp2_with fail
      (try go_ret)
      exact HF.out _ HBF.out
   · obtain rfl:m1=i:=by omega
     have HKE:Hid (k1=k2):=qq (PF.ext_at k1 k2 (by rw[←HM1.out,←HM2.out]) (fun j x y h1 h2=>HA.out j x y (by have:=PF.at_len _ _ _ h1;have:=HM1.out;omega) h1 h2));have HF:=qq (HEQ2.out HKE.out);go_wp2_with fail
     (try go_ret)
     exact HF.out _ HB.out
def ParEnds (r:PE×Int) (ea:Int→Addr) (w:World) (e:Ending) (w':World):Prop:=
 ∃a c,e=.returned (.tuple #[.agg (exA r.1 a c),errOf ea r.2])∧KC w.heap.size w'.heap.size w' r.1.kids a∧Below w.heap.size w w'
theorem parse_of (s : PStr) (ea : Int → Addr) (w : World) (hl : s.length ≤ 1000000) (hE : Errs ea w) :
    Calls Tryz.prog 17 #[.string ⟨s.toArray⟩] w (ParEnds (pParse s) ea w):=by
 have hmf:∀(fn:Fn) (first cap:Array Value) (w:World),(Instr.makeFunc fn first cap).run Tryz.prog w=.ok (.func fn first cap) w:=fun _ _ _ _=>rfl
 have HRES:Hid (∀r,pParse s=r→∀a c w',KC w.heap.size w'.heap.size w' r.1.kids a→Below w.heap.size w w'→ParEnds (pParse s) ea w (.returned (.tuple #[.agg (exA r.1 a c),errOf ea r.2])) w'):=qq (fun r hr a c w' h1 h2=>by rw[hr];exact⟨a,c,rfl,h1,h2⟩);have HP:Hid (pParse s=(if 20000<s.length then(⟨0,[],false,.nil⟩,3) else match pPar s with | some e=>(e,0) | none=>(⟨0,[],false,.nil⟩,4):PE×Int)):=qq rfl
 generalize ParEnds (pParse s) ea w=R at HRES⊢;have HGE:Hid (∀W,Below w.heap.size w W→W.cell? ⟨3,0,none⟩=some (errV (ea 3))):=qq (fun W hW=>(hE.below hW).e3);have HEE:=qq hE;have hsz:=str_size s;generalize hps:pParse s=ps at*;clear hps;by_cases hlong:20000<s.length
 · have HR:=qq (HRES.out (⟨0,[],false,.nil⟩,3) (by rw[HP.out,if_pos hlong]) none 0);have hgt:(20000:Int)<(s.length:Int):=by omega
   clear HRES HP hE hlong;generalize s.length=n at*;go_enter Tryz.func17,Tryz.ntmps17;go_wp2_with fail;have HB0:Below w.heap.size w ((w.alloc (.cells #[.string ⟨s.toArray⟩] 9)).alloc (.cells exZ 27)):=by go_grown
   have HT0:((w.alloc (.cells #[.string ⟨s.toArray⟩] 9)).alloc (.cells exZ 27)).heap[w.heap.size+1]? =some (.cells exZ 27 (0,0)):=hp_new _ (by simp);refine reg_start2 (fun w'=>Below w.heap.size w w') (fun w'=>w'.heap[w.heap.size+1]? =some (.cells exZ 27 (0,0))) (by kernel_rfl) (bel_drew HB0) (hp_dr HT0) ?_;rintro w1 hHeld hT1
   refine takeM (d:=some 7) 0 rfl rfl hHeld (fun w' hS'=>by clear hS';go_simp;(try rfl)) ?_;simp only[puts];refine takeM (d:=some 8) 1 rfl rfl hHeld (fun w' hS'=>by have qG:=HGE.out _ hS';clear hS';go_simp;(try rfl)) ?_;simp only[puts];refine one_M 2 (by kernel_rfl) ?_;refine row_M 2 27 _ _ rfl rfl rfl (w.heap.size+1) exZ exZ 27 hT1 rfl rfl (by kernel_rfl) rfl (by simp[exZ,Value.oneCell']) ?_
   intro w3 hb3 hg3;have HBF:=bel_gr hHeld hg3 (by omega);refine⟨HBF,fun hHeld=> ?_⟩;refine takeM (d:=some 3) 3 rfl rfl hHeld (fun w' hS'=>by clear hS';go_simp;(try rfl)) ?_;simp only[puts];refine doneM (by kernel_rfl) ?_ _;obtain⟨l3,q3,f3⟩:=hb3;clear hHeld;go_wp2_with fail
   exact bodyPost_ret (v:=.tuple #[.agg exZ,errV (ea 3)]) (by simp[results,Tryz.results17,go_sem,q3,f3,exZ]) rfl (HR.out w3 KC.nil HBF)
 · have hgt:¬(20000:Int)<(s.length:Int):=by omega
   have hs:s.length≤20000:=by omega
   have HB0:Hid (Below w.heap.size w ((w.alloc (.cells #[.string ⟨s.toArray⟩] 9)).alloc (.cells exZ 27))):=qq (by go_grown);have KB:Hid (Blk ((w.alloc (.cells #[.string ⟨s.toArray⟩] 9)).alloc (.cells exZ 27)) w.heap.size #[.string ⟨s.toArray⟩]):=qq ((Blk.fresh w _ _ _ rfl).alloc _)
   have HT0:Hid (((w.alloc (.cells #[.string ⟨s.toArray⟩] 9)).alloc (.cells exZ 27)).heap[w.heap.size+1]? =some (.cells exZ 27 (0,0))):=qq (hp_new _ (by simp));have H1:=qq (fun(W W2:World) (hW:Below w.heap.size w W) (hb:Blk W w.heap.size #[.string ⟨s.toArray⟩]) (hW2:Below W.heap.size W W2)=>parse1_of s ea w.heap.size W2 hs (HEE.out.below (below_then hW hW2)) (hb.below hW2))
   cases hq:pPar s with
   | none=>
    have HR:=qq (HRES.out (⟨0,[],false,.nil⟩,4) (by rw[HP.out,if_neg (by omega),hq]) none 0);have HTRY:=qq (fun(W:World) (hW:Below w.heap.size w W) (hb:Blk W w.heap.size #[.string ⟨s.toArray⟩])=>try_dies_ex ⟨w.heap.size,0,none⟩ 4 (by omega) ea W (HEE.out.below hW) (fun W2 hW2=>(H1.out W W2 hW hb hW2).mono (fun e w' he=>he.2 hq)));clear HRES HP hE hs hlong hq;generalize s.length=n at*
    go_enter Tryz.func17,Tryz.ntmps17;go_wp2_with fail;refine(HTRY.out _ HB0.out KB.out).mono ?_;rintro e w1 ⟨rfl,hb1⟩;have HB1:=qq (below_then HB0.out hb1);have HT1:=qq (hp_be HT0.out hb1);clear hb1;go_wp2_with (refine row_go 27 (.tmp 2) (.tmp 11) rfl rfl (w.heap.size+1) exZ exZ 27 HT1.out rfl rfl (by kernel_rfl) rfl (by simp[Value.oneCell',exZ]) ?_);intro w9 hb9 hg9
    have HEND:=qq (HR.out w9 KC.nil (bel_gr HB1.out hg9 (by omega)));obtain⟨l9,q9,f9⟩:=hb9;go_wp2_with fail;exact bodyPost_ret (v:=.tuple #[.agg exZ,errV (ea 4)]) (by simp[results,Tryz.results17,go_sem,q9,f9,exZ]) rfl HEND.out
   | some x=>
    have HR:=qq (HRES.out (x,0) (by rw[HP.out,if_neg (by omega),hq]));have HTRY:=qq (fun(W:World) (hW:Below w.heap.size w W) (hb:Blk W w.heap.size #[.string ⟨s.toArray⟩])=>try_gives_ex ⟨w.heap.size,0,none⟩ x (fun a W'=>KC (W.heap.size+3) W'.heap.size W' x.kids a) W (fun W2 hW2 hz2=>(H1.out W W2 hW hb hW2).mono (fun e w' he=>by
      obtain⟨a,c,h1,h2,h3⟩:=he.1 x hq;exact⟨a,c,h1,h2.keep hz2 (Nat.le_refl _) (fun _ _ _=>rfl),h3⟩)) (fun a W1 W2 h1 hz hk=>h1.keep (Nat.le_refl _) hz (fun k hk1 hk2=>hk k hk2 (.inr hk1))))
    clear HRES HP hE hs hlong hq;obtain⟨o,n,b,k⟩:=x;unfold exA at HTRY HR;dsimp only at HTRY HR;obtain⟨nk,hnk⟩:∃z,z=k.len:=⟨_,rfl⟩
    rw[←hnk] at HTRY HR;clear hnk;generalize s.length=m at*;go_enter Tryz.func17,Tryz.ntmps17;go_wp2_with fail;refine(HTRY.out _ HB0.out KB.out).mono ?_;rintro e w1 ⟨a2,c2,rfl,hk1,hb1⟩;have HB1:=qq (below_then HB0.out hb1);have HT1:=qq (hp_be HT0.out hb1);have HK1:=qq hk1;clear hb1 hk1
    go_wp2_with (refine row_go 27 (.tmp 2) (.tmp 11) rfl rfl (w.heap.size+1) #[.int .i64 o,.string ⟨n.toArray⟩,.bool b,.slice a2 nk c2] exZ 27 HT1.out rfl rfl (by kernel_rfl) rfl (by simp[Value.oneCell']) ?_);intro w9 hb9 hg9;have hg9z:=hg9.size
    have HEND:=qq (HR.out a2 c2 w9 (HK1.out.keep (by simp;omega) hg9z (fun j hj1 hj2=>hg9.block j hj2 (fun e=>by injection e with e;simp at hj1;omega))) (bel_gr HB1.out hg9 (by omega)));obtain⟨l9,q9,f9⟩:=hb9;go_wp2_with fail;exact bodyPost_ret (v:=.tuple #[.agg #[o,.string ⟨n.toArray⟩,.bool b,.slice a2 nk c2],.nilIface]) (by simp[results,Tryz.results17,go_sem,q9,f9]) rfl HEND.out
abbrev exAl:PE:=⟨2,[],false,.cons 1 [65] false .nil (.cons 3 [] false (.cons 1 [66] false .nil (.cons 1 [67] true .nil .nil)) .nil)⟩
theorem par_al:pParse [40,65,38,91,66,124,67,63,93,41]=(exAl,0):=by decide+kernel
theorem norm_al:pNormal exAl=([[[65]],[[65],[66]],[[65],[67]]],0):=by decide+kernel
theorem alive29_of (ea:Int→Addr) (w:World) (hE:Errs ea w):Calls Tryz.prog 8 #[] w (Makes (.bool true) w):=by
 have HP:=qq (parse_of [40,65,38,91,66,124,67,63,93,41] ea w (by decide) hE);have HEE:=qq hE;rw[par_al] at HP;clear hE;go_enter Tryz.func8,Tryz.ntmps8;go_wp2_with fail;refine HP.out.mono ?_;rintro e w1 ⟨a,c,he,hk,hb⟩;have he':e=.returned (.tuple #[.agg #[.int .i64 2,.string ⟨#[]⟩,.bool false,.slice a 2 c],.nilIface]):=he;subst he';clear he
 have HIN:Hid (∀W,Below w1.heap.size w1 W→ExIn w.heap.size w1.heap.size exAl a ea W):=qq (fun W hW=>⟨by decide,by decide,by simp[PF.small,PF.len],hk.below (Nat.le_refl _) hW,hW.size,HEE.out.below (below_then hb hW)⟩);have HN:=qq (fun W (hW:Below w1.heap.size w1 W)=>normal_of exAl a c w.heap.size w1.heap.size ea W (HIN.out W hW));rw[norm_al] at HN;have HB:=qq hb;clear hk hb
 have HN2:Hid (∀W,Below w1.heap.size w1 W→Calls Tryz.prog 11 #[.agg #[.int .i64 2,.string ⟨#[]⟩,.bool false,.slice a 2 c]] W (Alters W.heap.size ([[[65]],[[65],[66]],[[65],[67]]],0) ea W)):=qq (fun W hW=>HN.out W hW);clear HN;go_wp2_with fail;refine(HN2.out _ ((Below.refl _ _).alloc (Nat.le_refl _) _)).mono ?_;rintro e w2 ⟨v,he,hA,hb2⟩;have he':e=.returned (.tuple #[v,.nilIface]):=he;subst he'
 clear he;obtain⟨g0,a0,n0,k0,e0,_,d0,l0⟩:=alts_at hA 0 _ rfl;obtain⟨g1,a1,n1,k1,e1,_,d1,l1⟩:=alts_at hA 1 _ rfl;obtain⟨g2,a2,n2,k2,e2,hv2,d2,l2⟩:=alts_at hA 2 _ rfl;subst e0;injection e1 with e1 _ e1'
 injection e1 with e1
 injection e1 with e1
 subst e1 e1';injection e2 with e2 _ e2'
 injection e2 with e2
 injection e2 with e2
 subst e2 e2';obtain⟨a3,n3,e3,hx3⟩:=alt_cell hv2;obtain⟨b3,e4,c3,l3,hcap⟩:=hx3 1 [67] rfl;subst e4;injection e3 with e3 _ e3'
 subst e3 e3';have hB2:=qq (below_then (bel_alloc HB.out _) hb2);have q0:=d0 w2 (Below.refl _ _);have q1:=d1 w2 (Below.refl _ _);have q2:=d2 w2 (Below.refl _ _);simp only[List.length_cons,List.length_nil,encStr] at q0 q1 q2 c3 hcap;clear hA hv2 hx3 d0 d1 d2 hb2 HN2;go_wp2_with fail;go_ret;exact⟨rfl,hB2.out⟩
end Go.Proofs.YtbepkpjcjpmpmaaGreatDoor
