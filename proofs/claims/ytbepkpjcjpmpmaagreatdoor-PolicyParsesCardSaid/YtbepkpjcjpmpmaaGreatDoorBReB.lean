/- ReB -/
import Derived.Test.YtbepkpjcjpmpmaaGreatDoorBPolPToReA
import Derived.Test.YtbepkpjcjpmpmaaGreatDoorAPolLToDnA
set_option linter.unusedSimpArgs false
set_option linter.unusedVariables false
set_option maxRecDepth 100000
set_option maxHeartbeats 16000000
namespace Go.Proofs.YtbepkpjcjpmpmaaGreatDoor
open Go.RowKit Go.Shelf
def rrK (g d:Nat) (op:Int) (bt en:UInt8) (t:PStr):Option (PF×PStr):=match rHas en t with | some u=>some (.cons op [] false .nil .nil,u) | none=>rrGo g d t (some (op,bt,en,.nil))
theorem rr_deep (g d:Nat) (s:PStr) (h:12<d):rrGo (g+1) d s none=none:=by rw[rrGo.eq_def];dsimp only;rw[if_pos h]
theorem rr_nil (g d:Nat):rrGo (g+1) d [] none=none:=by rw[rrGo];split<;>rfl
theorem rr_all (g d:Nat) (t:PStr) (h:¬12<d):rrGo (g+1) d (40::t) none=rrK g d 2 38 41 t:=by rw[rrGo,if_neg h,if_pos rfl];unfold rrK;cases rHas 41 t<;>rfl
theorem rr_one1 (g d:Nat) (t:PStr) (h:¬12<d):rrGo (g+1) d (91::t) none=rrK g d 3 124 93 t:=by rw[rrGo,if_neg h,if_neg (by decide),if_pos rfl];unfold rrK;cases rHas 93 t<;>rfl
theorem rr_leaf (g d:Nat) (c:UInt8) (t:PStr) (h:¬12<d) (h1:¬c=40) (h2:¬c=91):rrGo (g+1) d (c::t) none=if isNm ((c::t).takeWhile isLet) then some (.cons 1 ((c::t).takeWhile isLet) (rHas 63 ((c::t).dropWhile isLet)).isSome .nil .nil,(rHas 63 ((c::t).dropWhile isLet)).getD ((c::t).dropWhile isLet)) else none:=by
 rw[rrGo,if_neg h,if_neg h1,if_neg h2]
 cases rHas 63 ((c::t).dropWhile isLet)<;>rfl
def rrNext (g d:Nat) (op:Int) (bt en:UInt8) (acc:PF) (e:PE):PStr→Option (PF×PStr)
 | []=>none
 | y::u=>if y=en then some (.cons op [] false (acc.snoc e) .nil,u) else if y=bt then rrGo g d u (some (op,bt,en,acc.snoc e)) else none
theorem rr_loop_no {g d:Nat} {s:PStr} {op:Int} {bt en:UInt8} {acc:PF} (h:rrGo g (d+1) s none=none):rrGo (g+1) d s (some (op,bt,en,acc))=none:=by rw[rrGo,h];rfl
theorem rr_loop_yes {g d:Nat} {s t:PStr} {op:Int} {bt en:UInt8} {acc:PF} {o:Int} {n:PStr} {b:Bool} {k:PF} (h:rrGo g (d+1) s none=some (.cons o n b k .nil,t)):rrGo (g+1) d s (some (op,bt,en,acc))=rrNext g d op bt en acc ⟨o,n,b,k⟩ t:=by
 rw[rrGo,h]
 cases t<;>rfl
def ReadEnds (q:Option (PF×PStr)) (N:Nat) (w:World) (e:Ending) (w':World):Prop:=
 (∀o n b k t,q=some (.cons o n b k .nil,t)→∃a c,e=.returned (.tuple #[.agg #[o,.string ⟨n.toArray⟩,.bool b,.slice a k.len c],.int .i64 ((N:Int) - (t.length:Int))])∧KC w.heap.size w'.heap.size w' k a∧Below w.heap.size w w')∧
 (q=none→e=.returned (.tuple #[.agg exZ,.int .i64 (-1)])∧Below w.heap.size w w')
def ReadAt (g:Nat):Prop:=∀(S:PStr) (p d:Nat) (w:World),p≤S.length→2*(S.length - p)+1≤g→S.length≤20000→1≤d→d≤13→
 Calls Tryz.prog 42 #[.string ⟨S.toArray⟩,.int .i64 (p:Int),.int .i64 (d:Int)] w (ReadEnds (rrGo g d (S.drop p) none) S.length w)
theorem ex_mid (s:PStr) (p k:Nat):(⟨s.toArray⟩:ByteArray).extract p (p+k)=⟨((s.drop p).take k).toArray⟩:=by
 apply ByteArray.ext;rw[ByteArray.data_extract];simp[List.extract_eq_take_drop]
theorem drop_cons {s:PStr} {p:Nat} {c:UInt8} {t:PStr} (h:s.drop p=c::t):s[p]? =some c∧s.drop (p+1)=t∧p<s.length:=by
 have h0:(s.drop p)[0]? =some c:=by rw[h];rfl
 have h1:s[p]? =some c:=by simpa using h0
 have hp:=(List.getElem?_eq_some_iff.1 h1).1;refine⟨h1,?_,hp⟩;have:=congrArg List.tail h;simpa using this
theorem suf_drop {s t:PStr} (h:t<:+s):t=s.drop (s.length - t.length)∧t.length≤s.length:=⟨List.suffix_iff_eq_drop.1 h,h.length_le⟩
theorem read_40 (g : Nat) (ih : ∀ g', g' ≤ g → ReadAt g') (S : PStr) (p d : Nat) (w : World) (t : PStr) (hp : p ≤ S.length) (hg : 2 * (S.length - p) + 1 ≤ g + 1) (hS : S.length ≤ 20000) (hd1 : 1 ≤ d) (hd : d ≤ 13) (hdd : ¬ 12 < d) (hsp : S.drop p = 40 :: t) :
    Calls Tryz.prog 42 #[.string ⟨S.toArray⟩,.int .i64 (p:Int),.int .i64 (d:Int)] w (ReadEnds (rrGo (g+1) d (S.drop p) none) S.length w):=by
 obtain⟨i0,ei,ez,es,eb⟩:=info_parts infoREx;have HH:=qq ih
 have HYES:Hid (∀o n b k t a c w',rrGo (g+1) d (S.drop p) none=some (.cons o n b k .nil,t)→KC w.heap.size w'.heap.size w' k a→Below w.heap.size w w'→ReadEnds (rrGo (g+1) d (S.drop p) none) S.length w (.returned (.tuple #[.agg #[o,.string ⟨n.toArray⟩,.bool b,.slice a k.len c],.int .i64 ((S.length:Int) - (t.length:Int))])) w'):=qq (fun o n b k t a c w' h1 h2 h3=>⟨fun o2 n2 b2 k2 t2 h=>(by rw[h1] at h;injection h with h;injection h with h h4;injection h with e1 e2 e3 e4;subst e1 e2 e3 e4 h4;exact⟨a,c,rfl,h2,h3⟩),fun h=>(by rw[h1] at h;cases h)⟩)
 have HNO:Hid (∀w',rrGo (g+1) d (S.drop p) none=none→Below w.heap.size w w'→ReadEnds (rrGo (g+1) d (S.drop p) none) S.length w (.returned (.tuple #[.agg exZ,.int .i64 (-1)])) w'):=qq (fun w' h1 h2=>⟨fun o n b k t h=>(by rw[h1] at h;cases h),fun _=>⟨rfl,h2⟩⟩);generalize ReadEnds (rrGo (g+1) d (S.drop p) none) S.length w=R at HYES HNO⊢;obtain⟨Q,hQ⟩:∃Q,Q=rrGo (g+1) d (S.drop p) none:=⟨_,rfl⟩
 rw[←hQ] at HYES HNO;have HQ:=qq hQ;have HI:=qq (fun(i:Nat) (c:UInt8) (h:S[i]? =some c)=>str_index h);have hsz:=str_size S;have HNN:Hid (S.length=S.length):=qq rfl;obtain⟨N,hN⟩:∃N,N=S.length:=⟨_,rfl⟩
 have HN:=qq hN;rw[←hN] at hp hg hS hsz HYES;clear hQ hN ih HNN;have hp0:(0:Int)≤(p:Int):=by omega
 have hd0:(0:Int)≤(d:Int):=by omega
 have hd':¬(12:Int)<(d:Int):=by omega
 obtain⟨hc,ht,hpl⟩:=drop_cons hsp;rw[←HN.out] at hpl;have hpl1:(p:Int)<(N:Int):=by omega
 have hpl2:¬(N:Int)≤(p:Int):=by omega
 have hix:=HI.out p _ hc;have htl:t.length+p+1=N:=by have:=congrArg List.length ht;rw[List.length_drop,←HN.out] at this;omega
 rw[hsp] at HQ;have HT:=qq ht;clear hc ht hsp;have HQ2:Hid (Q=rrK g d 2 38 41 t):=qq (by rw[HQ.out];exact rr_all g d t hdd);have hcv:((((40:UInt8)).toNat:Int))=40:=rfl;rw[hcv] at hix;clear HQ hcv
 cases hen:rHas 41 t with
 | some u=>
  have HQ3:Hid (Q=some (.cons 2 [] false .nil .nil,u)):=qq (by rw[HQ2.out];unfold rrK;rw[hen]);obtain⟨y,hy⟩:∃y,t=y::u∧y=41:=by
   cases t with
   | nil=>cases hen
   | cons y u2=>
    simp only[rHas] at hen;split at hen
    · rename_i hq
      injection hen with hen
      subst hen;exact⟨y,rfl,hq⟩
    · cases hen
  obtain⟨rfl,rfl⟩:=hy;obtain⟨hy1,hy2,hy3⟩:=drop_cons HT.out;have hix2:=HI.out (p+1) 41 hy1;have hcv:((((41:UInt8)).toNat:Int))=41:=rfl;rw[hcv] at hix2;have e1:((p+1:Nat):Int)=(p:Int)+1:=by omega
  rw[e1] at hix2;rw[←HN.out] at hy3;have hpl3:(p:Int)+1<(N:Int):=by omega
  have hul:((N:Int) - (u.length:Int))=(p:Int)+1+1:=by simp at htl;omega
  have HF:=qq (fun w' hw=>HYES.out 2 [] false .nil u none 0 w' HQ3.out KC.nil hw);rw[hul] at HF;clear hen hy1 hy2 hy3 hcv e1 hul htl;go_enter Tryz.func42,Tryz.ntmps42;go_wp2_with fail;exact bodyPost_ret (v:=.tuple #[.agg #[.int .i64 2,.string ⟨#[]⟩,.bool false,.slice none 0 0],.int .i64 ((p:Int)+1+1)]) (by simp[results,Tryz.results42,go_sem]) rfl (HF.out _ (by go_grown))
 | none=>
  have HQ3:Hid (Q=rrGo g d t (some (2,38,41,.nil))):=qq (by rw[HQ2.out];unfold rrK;rw[hen]);have HTLE:Hid (t.length≤20000):=qq (by omega);have HGG:Hid (2*t.length+2≤g):=qq (by omega);have htp:Hid (t=S.drop (p+1)):=qq HT.out.symm;have hnx:t=[]∨∃y u,t=y::u∧¬y=41:=by
   cases t with
   | nil=>exact .inl rfl
   | cons y u=>
    refine .inr ⟨y,u,rfl,fun h=> ?_⟩;subst h;simp[rHas] at hen
  clear hen HQ2;go_enter Tryz.func42,Tryz.ntmps42;have HSTEP:Hid (True):=qq True.intro;rcases hnx with hnil | ⟨y,u,hcons,hne⟩
  · have hpn:¬(p:Int)+1<(N:Int):=by rw[hnil] at htl;simp at htl;omega
    clear hnil;go_wp2_with fail
    go_loopw [1] (fun av wr=>∃(g1 pp m:Nat) (t1:PStr) (acc:PF) (ao:Option Addr) (co:Nat),av=.int .i64 (pp:Int)∧pp≤N∧p<pp∧g1≤g∧2*t1.length+2≤g1∧m+t1.length≤20000∧t1.length+pp=N∧Hid (t1=S.drop pp)∧Hid (Q=rrGo g1 d t1 (some (2,38,41,acc)))∧Hid (KidsIn (w.heap.size+1+1+1) 38 wr acc (.slice ao m co) m)∧Hid (Blk wr (w.heap.size+1+1) #[.int .i64 2,.string ⟨#[]⟩,.bool false,.slice ao m co])∧Hid (Blk wr (w.heap.size+1) exZ)∧Hid (wr.heap[w.heap.size]? =some (.cells exZ 38 (0,0)))∧Hid (Below w.heap.size w wr)) (fun av _=>N - (intOf av).toNat)
    case atStart=>exact⟨g,p+1,0,t,.nil,none,0,by first | rfl | go_num,by omega,by omega,Nat.le_refl _,HGG.out,by have:=HTLE.out;omega,by omega,htp,HQ3,qq (KidsIn.nil _ _ _),qq (Blk.fresh _ _ _ _ (by simp)),qq ((Blk.fresh _ _ _ _ (by simp)).alloc _),qq (hp_al (hp_al (hp_new _ rfl) _) _),qq (by go_grown)⟩
    case round=>
     obtain⟨g1,pp,m,t1,acc,ao,co,rfl,hpp,hpl0,hgl,hgt,hml,htl1,HT1,HQ4,HO,HX,HZ,HP,HB⟩:=hrel;have hpp0:(0:Int)≤(pp:Int):=by omega
     have hwr:=HB.out.size;have hpl4:=(Array.getElem?_eq_some_iff.1 HP.out).1;have hxl:=HX.out.lt;obtain⟨g2,rfl⟩:∃g2,g1=g2+1:=⟨g1 - 1,by omega⟩
     have HC:=qq (HH.out g2 (by omega) S pp (d+1) wr (by rw[←HN.out];omega) (by rw[←HN.out];omega) (by rw[←HN.out];omega) (by omega) (by omega));rw[←HT1.out,←HN.out] at HC;have e2:((d+1:Nat):Int)=(d:Int)+1:=by omega
     rw[e2] at HC;clear e2;go_wp2_with fail;refine HC.out.mono ?_;rintro e w2 ⟨hyes,hno⟩
     cases hq:rrGo g2 (d+1) t1 none with
     | none=>
      obtain⟨rfl,hb2⟩:=hno hq;have HB2:=qq (below_then HB.out hb2);have HP2:=qq (hp_be HP.out hb2);have HZ2:=qq (HZ.out.below hb2);have HF:=qq (fun w' hw=>HNO.out w' (by rw[HQ4.out];exact rr_loop_no hq) hw);clear hyes hno hq hb2 HC;obtain⟨lz,qz,fz⟩:=HZ2.out
      go_wp2_with (refine row_go 38 (.tmp 6) (.tmp 108) rfl rfl w.heap.size exZ exZ 38 (hp_al HP2.out _) rfl rfl (by kernel_rfl) rfl (by simp[exZ,Value.oneCell']) ?_);intro w9 hb9 hg9;have H41D:=qq (HF.out w9 (bel_gr (bel_alloc HB2.out _) hg9 (Nat.le_refl _)));obtain⟨l9,q9,f9⟩:=hb9;clear qz fz lz;go_wp2_with fail
      exact bodyPost_ret (v:=.tuple #[.agg exZ,.int .i64 (-1)]) (by simp[results,Tryz.results42,go_sem,q9,f9,exZ]) rfl H41D.out
     | some r=>
      obtain⟨f,t2⟩:=r;obtain⟨o,n,b,k,rfl⟩:=rr_one hq;obtain⟨a2,c2,rfl,hkc,hb2⟩:=hyes o n b k t2 hq;have HB2:=qq (below_then HB.out hb2);have HQ5:=qq (HQ4.out.trans (rr_loop_yes hq));have hsf:=suf_drop ((rr_suf _ _ _ _ _ _ hq).trans (by rw[HT1.out];exact List.drop_suffix _ _));rw[←HN.out] at hsf;have hle2:t2.length≤t1.length:=(rr_suf _ _ _ _ _ _ hq).length_le
      obtain⟨nx,hnx⟩:∃nx,nx+t2.length=N:=⟨N - t2.length,by omega⟩
      have hnv:((N:Int) - (t2.length:Int))=(nx:Int):=by omega
      rw[hnv];have hdr:t2=S.drop nx:=by have:=hsf.1;rw[this];congr 1;omega
      have HDR:=qq hdr;have HKC:=qq hkc;have HBL2:=qq hb2;have hnx0:(0:Int)≤(nx:Int):=by omega
      have hnx1:¬(nx:Int)<0:=by omega
      have HO2:=qq (HO.out.below hb2);have HX2:=qq (HX.out.below hb2);have HP2:=qq (hp_be HP.out hb2);have HZ2:=qq (HZ.out.below hb2);have hz2:=hb2.size;obtain⟨nk,hnk⟩:∃q,q=k.len:=⟨_,rfl⟩
      rw[←hnk];have HNK:=qq hnk;clear hyes hno hq hsf hnv hdr hkc hb2 HC hnk
      cases t2 with
      | nil=>
       have hnn:(N:Int)≤(nx:Int):=by simp at hnx;omega
       have HF:=qq (fun w' hw=>HNO.out w' (by rw[HQ5.out];rfl) hw);obtain⟨lz,qz,fz⟩:=HZ2.out;go_wp2_with (refine row_go 38 (.tmp 6) (.tmp 108) rfl rfl w.heap.size exZ exZ 38 (hp_al HP2.out _) rfl rfl (by kernel_rfl) rfl (by simp[exZ,Value.oneCell']) ?_);intro w9 hb9 hg9;have H41D:=qq (HF.out w9 (bel_gr (bel_alloc HB2.out _) hg9 (Nat.le_refl _)));obtain⟨l9,q9,f9⟩:=hb9;clear qz fz lz
       go_wp2_with fail;exact bodyPost_ret (v:=.tuple #[.agg exZ,.int .i64 (-1)]) (by simp[results,Tryz.results42,go_sem,q9,f9,exZ]) rfl H41D.out
      | cons y u=>
       have hnn:¬(N:Int)≤(nx:Int):=by simp at hnx;omega
       have hul:u.length+nx+1=N:=by simp at hnx;omega
       obtain⟨hy1,hy2,_⟩:=drop_cons HDR.out.symm;have hix3:=HI.out nx y hy1;have HUD:=qq hy2;obtain⟨hacl,xs,hrow,hkl⟩:=HO2.out;have HACL:=qq hacl;have HR0:=qq hrow;have HKL:=qq hkl;have hb3:Below w2.heap.size w2 (w2.alloc (.cells #[o,.string ⟨n.toArray⟩,.bool b,.slice a2 nk c2] 38)):=(Below.refl _ _).alloc (Nat.le_refl _) _;have HBL3:=qq hb3;have HX3:=qq (HX2.out.below hb3)
       have HK3:Hid (Blk (w2.alloc (.cells #[o,.string ⟨n.toArray⟩,.bool b,.slice a2 nk c2] 38)) w2.heap.size #[.int .i64 o,.string ⟨n.toArray⟩,.bool b,.slice a2 nk c2]):=qq (Blk.fresh w2 _ _ _ rfl);have HROW:=qq (row_al (row_be hrow hb3) (.cells #[o,.string ⟨n.toArray⟩,.bool b,.slice a2 nk c2] 38))
       have HLIT:Hid (((w2.alloc (.cells #[o,.string ⟨n.toArray⟩,.bool b,.slice a2 nk c2] 38)).alloc (.cells #[o,.string ⟨n.toArray⟩,.bool b,.slice a2 nk c2] 38)).ownsRow (w2.heap.size+1) 38 4 (.slice (some ⟨w2.heap.size+1,0,none⟩) 1 1) 1 [.int .i64 o,.string ⟨n.toArray⟩,.bool b,.slice a2 nk c2]):=qq (by have:=lit_row4 (w2.alloc (.cells #[o,.string ⟨n.toArray⟩,.bool b,.slice a2 nk c2] 38)) (.int .i64 o) (.string ⟨n.toArray⟩) (.bool b) (.slice a2 nk c2) 38;simpa using this)
       obtain⟨lx,qx,fx⟩:=HX2.out;have HUL:=qq hul;have HLE:=qq hle2;have HNXX:=qq hnx;have HTL1:=qq htl1;have HTL0:=qq htl;clear hul hle2 hnx htl1 htl;clear hacl hrow hkl hy1 hy2 hb3
       go_wp2_with (at_builtin;refine wpList_append_rows rfl (.tmp 110) (.tmp 112) 36 rfl _ 38 i0 (.agg #[.int .i64 0,.string ⟨#[]⟩,.bool false,.slice none 0 0]) 4 56 Tryz.underlying36 ei ez es eb rfl (by decide) _ m _ rfl HROW.out _ _ _ _ rfl HLIT.out ?oq3 ?aq3 ?bq3 ?cq3 ?_)
       (try(case oq3=>intro u hu;simp at hu;rcases hu with rfl | rfl | rfl | rfl<;>rfl))
       (try(case aq3=>unfold maxLen;omega))
       (try(case bq3=>omega))
       (try(case cq3=>(try simp);omega))
       intro v5 w5 hown hgrow hat;have HR3:=qq (row_be HR0.out HBL3.out);have HKL3:=qq (HKL.out.keep (S':=fun k=>w.heap.size+1+1+1≤k∧k<(w2.alloc (.cells #[o,.string ⟨n.toArray⟩,.bool b,.slice a2 nk c2] 38)).heap.size∧some k≠(Value.slice ao m co).ownBlock) (fun k hk=>⟨hk.1,by simp;omega,hk.2.2⟩) (fun k hk=>HBL3.out.block k hk.2.1))
       have hHK:=KidsIn.more (e:=⟨o,n,b,k⟩) (w:=(w2.alloc (.cells #[o,.string ⟨n.toArray⟩,.bool b,.slice a2 nk c2] 38))) (a:=a2) (c:=c2) (B1:=wr.heap.size) HACL.out HR3.out HKL3.out ((HKC.out.below (Nat.le_refl _) HBL3.out).keep (Nat.le_refl _) (by simp) (fun _ _ _=>rfl)) (by omega) (fun q hq=>(HO.out.lt q hq).2) rfl (by unfold exL';dsimp only;rw[←HNK.out];exact hown) (by unfold exL';dsimp only;rw[←HNK.out];exact hgrow) (by unfold exL';dsimp only;rw[←HNK.out];first | exact hat | simpa using hat)
       have HX5:=qq (Blk.same (HX3.out.alloc _) hgrow.size (hgrow.block (w.heap.size+1+1) (by simp;omega) (fun e=>by have:=(HR0.out.lt _ e.symm).1;omega)));have HZ5:=qq (Blk.same ((HZ2.out.below HBL3.out).alloc _) hgrow.size (hgrow.block (w.heap.size+1) (by simp;omega) (fun e=>by have:=(HR0.out.lt _ e.symm).1;omega)))
       have HP5:Hid (w5.heap[w.heap.size]? =some (.cells exZ 38 (0,0))):=qq ((hgrow.block w.heap.size (by simp;omega) (fun e=>by have:=(HR0.out.lt _ e.symm).1;omega)).trans (hp_al (hp_be HP2.out HBL3.out) _))
       have HB5:=qq ((bel_alloc (below_then HB2.out HBL3.out) (.cells #[o,.string ⟨n.toArray⟩,.bool b,.slice a2 nk c2] 38)).grown hgrow (by have:=(below_then HB2.out HBL3.out).size;simp;omega) (fun q hq=>by have:=(HR0.out.lt q hq).1;omega));have hz5:=HB5.out.size;obtain⟨a5,c5,rfl⟩:=hHK.slice;have HK5:=qq hHK;clear hown hgrow hat hHK HROW HKL HLIT lx qx fx HACL HR0 HR3 HKL3
       obtain⟨lx,qx,fx⟩:=HX5.out;have HXF:Hid (Blk (w5.setCell ⟨w.heap.size+1+1,3,none⟩ (.slice a5 (m+1) c5)) (w.heap.size+1+1) #[.int .i64 2,.string ⟨#[]⟩,.bool false,.slice a5 (m+1) c5]):=qq (by
         have:=HX5.out.set' 3 (by simp) (.slice a5 (m+1) c5);simpa using this)
       have HKF:=qq (HK5.out.set (p:=⟨w.heap.size+1+1,3,none⟩) (by dsimp only;omega) (.slice a5 (m+1) c5));have HZF:=qq (Blk.same (w':=w5.setCell ⟨w.heap.size+1+1,3,none⟩ (.slice a5 (m+1) c5)) HZ5.out (by simp) (Below.heap_setCell _ _ _ _ (by dsimp only;omega)));have HPF:=qq (hp_st HP5.out (p:=⟨w.heap.size+1+1,3,none⟩) (by dsimp only;omega) (.slice a5 (m+1) c5))
       have HBF:=qq (bel_set HB5.out (p:=⟨w.heap.size+1+1,3,none⟩) (by dsimp only;omega) (.slice a5 (m+1) c5));generalize hW6:w5.setCell ⟨w.heap.size+1+1,3,none⟩ (.slice a5 (m+1) c5)=w6 at HXF HKF HZF HPF HBF;have HW6:=qq hW6;clear hW6;have hz6:w6.heap.size=w5.heap.size:=by rw[←HW6.out];simp
       have hW6:=HW6.out;have hul:=HUL.out;have hle2:=HLE.out;have hnx:=HNXX.out;have htl1:=HTL1.out;have hgtt:=hgt;by_cases hye:y=41
       · have hyv:(((y.toNat:Nat):Int)==41)=true:=by subst hye;rfl
         have HQF:Hid (Q=some (.cons 2 [] false (acc.snoc ⟨o,n,b,k⟩) .nil,u)):=qq (by rw[HQ5.out];exact if_pos hye);have HML:Hid (m+1=(acc.snoc ⟨o,n,b,k⟩).len):=qq HKF.out.1;have HFF:=qq (fun a c w'=>HYES.out 2 [] false (acc.snoc ⟨o,n,b,k⟩) u a c w' HQF.out);rw[←HML.out] at HFF;have hul2:((N:Int) - (u.length:Int))=(nx:Int)+1:=by omega
         rw[hul2] at HFF;clear hye hul2 hul hle2 hnx htl1;obtain⟨l6,q6,f6⟩:=HXF.out;go_wp2_with (refine row_go 38 (.tmp 6) (.tmp 122) rfl rfl w.heap.size #[.int .i64 2,.string ⟨#[]⟩,.bool false,.slice a5 (m+1) c5] exZ 38 HPF.out rfl rfl (by kernel_rfl) rfl (by simp[Value.oneCell']) ?_);intro w9 hb9 hg9;have hz9:=hg9.size
         have H41D:=qq (HFF.out a5 c5 w9 ((HKF.out.kc (B:=w.heap.size+1) (by omega)).keep (by omega) hz9 (fun j hj1 hj2=>hg9.block j hj2 (fun e=>by injection e with e;omega))) (bel_gr HBF.out hg9 (Nat.le_refl _)));obtain⟨l9,q9,f9⟩:=hb9;clear q6 f6 l6 qx fx lx;go_wp2_with fail
         exact bodyPost_ret (v:=.tuple #[.agg #[.int .i64 2,.string ⟨#[]⟩,.bool false,.slice a5 (m+1) c5],.int .i64 ((nx:Int)+1)]) (by simp[results,Tryz.results42,go_sem,q9,f9]) rfl H41D.out
       · have hyv:(((y.toNat:Nat):Int)==41)=false:=by
          have h1:y.toNat≠41:=fun h=>hye (UInt8.toNat_inj.1 h)
          simp;omega
         by_cases hyb:y=38
         · have hyw:(((y.toNat:Nat):Int)==38)=true:=by subst hyb;rfl
           have HQF:Hid (Q=rrGo g2 d u (some (2,38,41,acc.snoc ⟨o,n,b,k⟩))):=qq (by rw[HQ5.out];exact(if_neg hye).trans (if_pos hyb));clear hye hyb;have hmeas:2*u.length+2≤g2∧m+1+u.length≤20000∧nx+1≤N∧u.length+(nx+1)=N∧N - (nx+1)<N - pp∧p<nx+1:=by simp at hle2;omega
           have HME:=qq hmeas;clear hmeas hul hle2 hnx htl1 hgtt;go_wp2_with fail;have hmeas:=HME.out;go_roundw
           case rel=>exact⟨g2,nx+1,m+1,u,_,a5,c5,by go_num,by omega,by omega,by omega,by omega,by omega,by omega,qq HUD.out.symm,HQF,HKF,HXF,HZF,HPF,HBF⟩
           case measure=>simp[intOf];omega
         · have hyw:(((y.toNat:Nat):Int)==38)=false:=by
            have h1:y.toNat≠38:=fun h=>hyb (UInt8.toNat_inj.1 h)
            simp;omega
           have HF:=qq (fun w' hw=>HNO.out w' (by rw[HQ5.out];exact(if_neg hye).trans (if_neg hyb)) hw);clear hye hyb hul hle2 hnx htl1;obtain⟨lz,qz,fz⟩:=HZF.out;go_wp2_with (refine row_go 38 (.tmp 6) (.tmp 129) rfl rfl w.heap.size exZ exZ 38 HPF.out rfl rfl (by kernel_rfl) rfl (by simp[exZ,Value.oneCell']) ?_);intro w9 hb9 hg9;have H41D:=qq (HF.out w9 (bel_gr HBF.out hg9 (Nat.le_refl _)))
           obtain⟨l9,q9,f9⟩:=hb9;clear qz fz lz qx fx lx;go_wp2_with fail;exact bodyPost_ret (v:=.tuple #[.agg exZ,.int .i64 (-1)]) (by simp[results,Tryz.results42,go_sem,q9,f9,exZ]) rfl H41D.out
  · have hpn:(p:Int)+1<(N:Int):=by rw[hcons] at htl;simp at htl;omega
    obtain⟨hy1,_,_⟩:=drop_cons (htp.out.symm.trans hcons);have hix2:=HI.out (p+1) y hy1;have e1:((p+1:Nat):Int)=(p:Int)+1:=by omega
    rw[e1] at hix2;have hyn:(((y.toNat:Nat):Int)==41)=false:=by
     have h1:y.toNat≠41:=fun h=>hne (UInt8.toNat_inj.1 h)
     simp;omega
    clear hcons hne hy1 e1;go_wp2_with fail;clear hix2 hyn
    go_loopw [1] (fun av wr=>∃(g1 pp m:Nat) (t1:PStr) (acc:PF) (ao:Option Addr) (co:Nat),av=.int .i64 (pp:Int)∧pp≤N∧p<pp∧g1≤g∧2*t1.length+2≤g1∧m+t1.length≤20000∧t1.length+pp=N∧Hid (t1=S.drop pp)∧Hid (Q=rrGo g1 d t1 (some (2,38,41,acc)))∧Hid (KidsIn (w.heap.size+1+1+1) 38 wr acc (.slice ao m co) m)∧Hid (Blk wr (w.heap.size+1+1) #[.int .i64 2,.string ⟨#[]⟩,.bool false,.slice ao m co])∧Hid (Blk wr (w.heap.size+1) exZ)∧Hid (wr.heap[w.heap.size]? =some (.cells exZ 38 (0,0)))∧Hid (Below w.heap.size w wr)) (fun av _=>N - (intOf av).toNat)
    case atStart=>exact⟨g,p+1,0,t,.nil,none,0,by first | rfl | go_num,by omega,by omega,Nat.le_refl _,HGG.out,by have:=HTLE.out;omega,by omega,htp,HQ3,qq (KidsIn.nil _ _ _),qq (Blk.fresh _ _ _ _ (by simp)),qq ((Blk.fresh _ _ _ _ (by simp)).alloc _),qq (hp_al (hp_al (hp_new _ rfl) _) _),qq (by go_grown)⟩
    case round=>
     obtain⟨g1,pp,m,t1,acc,ao,co,rfl,hpp,hpl0,hgl,hgt,hml,htl1,HT1,HQ4,HO,HX,HZ,HP,HB⟩:=hrel;have hpp0:(0:Int)≤(pp:Int):=by omega
     have hwr:=HB.out.size;have hpl4:=(Array.getElem?_eq_some_iff.1 HP.out).1;have hxl:=HX.out.lt;obtain⟨g2,rfl⟩:∃g2,g1=g2+1:=⟨g1 - 1,by omega⟩
     have HC:=qq (HH.out g2 (by omega) S pp (d+1) wr (by rw[←HN.out];omega) (by rw[←HN.out];omega) (by rw[←HN.out];omega) (by omega) (by omega));rw[←HT1.out,←HN.out] at HC;have e2:((d+1:Nat):Int)=(d:Int)+1:=by omega
     rw[e2] at HC;clear e2;go_wp2_with fail;refine HC.out.mono ?_;rintro e w2 ⟨hyes,hno⟩
     cases hq:rrGo g2 (d+1) t1 none with
     | none=>
      obtain⟨rfl,hb2⟩:=hno hq;have HB2:=qq (below_then HB.out hb2);have HP2:=qq (hp_be HP.out hb2);have HZ2:=qq (HZ.out.below hb2);have HF:=qq (fun w' hw=>HNO.out w' (by rw[HQ4.out];exact rr_loop_no hq) hw);clear hyes hno hq hb2 HC;obtain⟨lz,qz,fz⟩:=HZ2.out
      go_wp2_with (refine row_go 38 (.tmp 6) (.tmp 108) rfl rfl w.heap.size exZ exZ 38 (hp_al HP2.out _) rfl rfl (by kernel_rfl) rfl (by simp[exZ,Value.oneCell']) ?_);intro w9 hb9 hg9;have H41D:=qq (HF.out w9 (bel_gr (bel_alloc HB2.out _) hg9 (Nat.le_refl _)));obtain⟨l9,q9,f9⟩:=hb9;clear qz fz lz;go_wp2_with fail
      exact bodyPost_ret (v:=.tuple #[.agg exZ,.int .i64 (-1)]) (by simp[results,Tryz.results42,go_sem,q9,f9,exZ]) rfl H41D.out
     | some r=>
      obtain⟨f,t2⟩:=r;obtain⟨o,n,b,k,rfl⟩:=rr_one hq;obtain⟨a2,c2,rfl,hkc,hb2⟩:=hyes o n b k t2 hq;have HB2:=qq (below_then HB.out hb2);have HQ5:=qq (HQ4.out.trans (rr_loop_yes hq));have hsf:=suf_drop ((rr_suf _ _ _ _ _ _ hq).trans (by rw[HT1.out];exact List.drop_suffix _ _));rw[←HN.out] at hsf;have hle2:t2.length≤t1.length:=(rr_suf _ _ _ _ _ _ hq).length_le
      obtain⟨nx,hnx⟩:∃nx,nx+t2.length=N:=⟨N - t2.length,by omega⟩
      have hnv:((N:Int) - (t2.length:Int))=(nx:Int):=by omega
      rw[hnv];have hdr:t2=S.drop nx:=by have:=hsf.1;rw[this];congr 1;omega
      have HDR:=qq hdr;have HKC:=qq hkc;have HBL2:=qq hb2;have hnx0:(0:Int)≤(nx:Int):=by omega
      have hnx1:¬(nx:Int)<0:=by omega
      have HO2:=qq (HO.out.below hb2);have HX2:=qq (HX.out.below hb2);have HP2:=qq (hp_be HP.out hb2);have HZ2:=qq (HZ.out.below hb2);have hz2:=hb2.size;obtain⟨nk,hnk⟩:∃q,q=k.len:=⟨_,rfl⟩
      rw[←hnk];have HNK:=qq hnk;clear hyes hno hq hsf hnv hdr hkc hb2 HC hnk
      cases t2 with
      | nil=>
       have hnn:(N:Int)≤(nx:Int):=by simp at hnx;omega
       have HF:=qq (fun w' hw=>HNO.out w' (by rw[HQ5.out];rfl) hw);obtain⟨lz,qz,fz⟩:=HZ2.out;go_wp2_with (refine row_go 38 (.tmp 6) (.tmp 108) rfl rfl w.heap.size exZ exZ 38 (hp_al HP2.out _) rfl rfl (by kernel_rfl) rfl (by simp[exZ,Value.oneCell']) ?_);intro w9 hb9 hg9;have H41D:=qq (HF.out w9 (bel_gr (bel_alloc HB2.out _) hg9 (Nat.le_refl _)));obtain⟨l9,q9,f9⟩:=hb9;clear qz fz lz
       go_wp2_with fail;exact bodyPost_ret (v:=.tuple #[.agg exZ,.int .i64 (-1)]) (by simp[results,Tryz.results42,go_sem,q9,f9,exZ]) rfl H41D.out
      | cons y u=>
       have hnn:¬(N:Int)≤(nx:Int):=by simp at hnx;omega
       have hul:u.length+nx+1=N:=by simp at hnx;omega
       obtain⟨hy1,hy2,_⟩:=drop_cons HDR.out.symm;have hix3:=HI.out nx y hy1;have HUD:=qq hy2;obtain⟨hacl,xs,hrow,hkl⟩:=HO2.out;have HACL:=qq hacl;have HR0:=qq hrow;have HKL:=qq hkl;have hb3:Below w2.heap.size w2 (w2.alloc (.cells #[o,.string ⟨n.toArray⟩,.bool b,.slice a2 nk c2] 38)):=(Below.refl _ _).alloc (Nat.le_refl _) _;have HBL3:=qq hb3;have HX3:=qq (HX2.out.below hb3)
       have HK3:Hid (Blk (w2.alloc (.cells #[o,.string ⟨n.toArray⟩,.bool b,.slice a2 nk c2] 38)) w2.heap.size #[.int .i64 o,.string ⟨n.toArray⟩,.bool b,.slice a2 nk c2]):=qq (Blk.fresh w2 _ _ _ rfl);have HROW:=qq (row_al (row_be hrow hb3) (.cells #[o,.string ⟨n.toArray⟩,.bool b,.slice a2 nk c2] 38))
       have HLIT:Hid (((w2.alloc (.cells #[o,.string ⟨n.toArray⟩,.bool b,.slice a2 nk c2] 38)).alloc (.cells #[o,.string ⟨n.toArray⟩,.bool b,.slice a2 nk c2] 38)).ownsRow (w2.heap.size+1) 38 4 (.slice (some ⟨w2.heap.size+1,0,none⟩) 1 1) 1 [.int .i64 o,.string ⟨n.toArray⟩,.bool b,.slice a2 nk c2]):=qq (by have:=lit_row4 (w2.alloc (.cells #[o,.string ⟨n.toArray⟩,.bool b,.slice a2 nk c2] 38)) (.int .i64 o) (.string ⟨n.toArray⟩) (.bool b) (.slice a2 nk c2) 38;simpa using this)
       obtain⟨lx,qx,fx⟩:=HX2.out;have HUL:=qq hul;have HLE:=qq hle2;have HNXX:=qq hnx;have HTL1:=qq htl1;have HTL0:=qq htl;clear hul hle2 hnx htl1 htl;clear hacl hrow hkl hy1 hy2 hb3
       go_wp2_with (at_builtin;refine wpList_append_rows rfl (.tmp 110) (.tmp 112) 36 rfl _ 38 i0 (.agg #[.int .i64 0,.string ⟨#[]⟩,.bool false,.slice none 0 0]) 4 56 Tryz.underlying36 ei ez es eb rfl (by decide) _ m _ rfl HROW.out _ _ _ _ rfl HLIT.out ?oq3 ?aq3 ?bq3 ?cq3 ?_)
       (try(case oq3=>intro u hu;simp at hu;rcases hu with rfl | rfl | rfl | rfl<;>rfl))
       (try(case aq3=>unfold maxLen;omega))
       (try(case bq3=>omega))
       (try(case cq3=>(try simp);omega))
       intro v5 w5 hown hgrow hat;have HR3:=qq (row_be HR0.out HBL3.out);have HKL3:=qq (HKL.out.keep (S':=fun k=>w.heap.size+1+1+1≤k∧k<(w2.alloc (.cells #[o,.string ⟨n.toArray⟩,.bool b,.slice a2 nk c2] 38)).heap.size∧some k≠(Value.slice ao m co).ownBlock) (fun k hk=>⟨hk.1,by simp;omega,hk.2.2⟩) (fun k hk=>HBL3.out.block k hk.2.1))
       have hHK:=KidsIn.more (e:=⟨o,n,b,k⟩) (w:=(w2.alloc (.cells #[o,.string ⟨n.toArray⟩,.bool b,.slice a2 nk c2] 38))) (a:=a2) (c:=c2) (B1:=wr.heap.size) HACL.out HR3.out HKL3.out ((HKC.out.below (Nat.le_refl _) HBL3.out).keep (Nat.le_refl _) (by simp) (fun _ _ _=>rfl)) (by omega) (fun q hq=>(HO.out.lt q hq).2) rfl (by unfold exL';dsimp only;rw[←HNK.out];exact hown) (by unfold exL';dsimp only;rw[←HNK.out];exact hgrow) (by unfold exL';dsimp only;rw[←HNK.out];first | exact hat | simpa using hat)
       have HX5:=qq (Blk.same (HX3.out.alloc _) hgrow.size (hgrow.block (w.heap.size+1+1) (by simp;omega) (fun e=>by have:=(HR0.out.lt _ e.symm).1;omega)));have HZ5:=qq (Blk.same ((HZ2.out.below HBL3.out).alloc _) hgrow.size (hgrow.block (w.heap.size+1) (by simp;omega) (fun e=>by have:=(HR0.out.lt _ e.symm).1;omega)))
       have HP5:Hid (w5.heap[w.heap.size]? =some (.cells exZ 38 (0,0))):=qq ((hgrow.block w.heap.size (by simp;omega) (fun e=>by have:=(HR0.out.lt _ e.symm).1;omega)).trans (hp_al (hp_be HP2.out HBL3.out) _))
       have HB5:=qq ((bel_alloc (below_then HB2.out HBL3.out) (.cells #[o,.string ⟨n.toArray⟩,.bool b,.slice a2 nk c2] 38)).grown hgrow (by have:=(below_then HB2.out HBL3.out).size;simp;omega) (fun q hq=>by have:=(HR0.out.lt q hq).1;omega));have hz5:=HB5.out.size;obtain⟨a5,c5,rfl⟩:=hHK.slice;have HK5:=qq hHK;clear hown hgrow hat hHK HROW HKL HLIT lx qx fx HACL HR0 HR3 HKL3
       obtain⟨lx,qx,fx⟩:=HX5.out;have HXF:Hid (Blk (w5.setCell ⟨w.heap.size+1+1,3,none⟩ (.slice a5 (m+1) c5)) (w.heap.size+1+1) #[.int .i64 2,.string ⟨#[]⟩,.bool false,.slice a5 (m+1) c5]):=qq (by
         have:=HX5.out.set' 3 (by simp) (.slice a5 (m+1) c5);simpa using this)
       have HKF:=qq (HK5.out.set (p:=⟨w.heap.size+1+1,3,none⟩) (by dsimp only;omega) (.slice a5 (m+1) c5));have HZF:=qq (Blk.same (w':=w5.setCell ⟨w.heap.size+1+1,3,none⟩ (.slice a5 (m+1) c5)) HZ5.out (by simp) (Below.heap_setCell _ _ _ _ (by dsimp only;omega)));have HPF:=qq (hp_st HP5.out (p:=⟨w.heap.size+1+1,3,none⟩) (by dsimp only;omega) (.slice a5 (m+1) c5))
       have HBF:=qq (bel_set HB5.out (p:=⟨w.heap.size+1+1,3,none⟩) (by dsimp only;omega) (.slice a5 (m+1) c5));generalize hW6:w5.setCell ⟨w.heap.size+1+1,3,none⟩ (.slice a5 (m+1) c5)=w6 at HXF HKF HZF HPF HBF;have HW6:=qq hW6;clear hW6;have hz6:w6.heap.size=w5.heap.size:=by rw[←HW6.out];simp
       have hW6:=HW6.out;have hul:=HUL.out;have hle2:=HLE.out;have hnx:=HNXX.out;have htl1:=HTL1.out;have hgtt:=hgt;by_cases hye:y=41
       · have hyv:(((y.toNat:Nat):Int)==41)=true:=by subst hye;rfl
         have HQF:Hid (Q=some (.cons 2 [] false (acc.snoc ⟨o,n,b,k⟩) .nil,u)):=qq (by rw[HQ5.out];exact if_pos hye);have HML:Hid (m+1=(acc.snoc ⟨o,n,b,k⟩).len):=qq HKF.out.1;have HFF:=qq (fun a c w'=>HYES.out 2 [] false (acc.snoc ⟨o,n,b,k⟩) u a c w' HQF.out);rw[←HML.out] at HFF;have hul2:((N:Int) - (u.length:Int))=(nx:Int)+1:=by omega
         rw[hul2] at HFF;clear hye hul2 hul hle2 hnx htl1;obtain⟨l6,q6,f6⟩:=HXF.out;go_wp2_with (refine row_go 38 (.tmp 6) (.tmp 122) rfl rfl w.heap.size #[.int .i64 2,.string ⟨#[]⟩,.bool false,.slice a5 (m+1) c5] exZ 38 HPF.out rfl rfl (by kernel_rfl) rfl (by simp[Value.oneCell']) ?_);intro w9 hb9 hg9;have hz9:=hg9.size
         have H41D:=qq (HFF.out a5 c5 w9 ((HKF.out.kc (B:=w.heap.size+1) (by omega)).keep (by omega) hz9 (fun j hj1 hj2=>hg9.block j hj2 (fun e=>by injection e with e;omega))) (bel_gr HBF.out hg9 (Nat.le_refl _)));obtain⟨l9,q9,f9⟩:=hb9;clear q6 f6 l6 qx fx lx;go_wp2_with fail
         exact bodyPost_ret (v:=.tuple #[.agg #[.int .i64 2,.string ⟨#[]⟩,.bool false,.slice a5 (m+1) c5],.int .i64 ((nx:Int)+1)]) (by simp[results,Tryz.results42,go_sem,q9,f9]) rfl H41D.out
       · have hyv:(((y.toNat:Nat):Int)==41)=false:=by
          have h1:y.toNat≠41:=fun h=>hye (UInt8.toNat_inj.1 h)
          simp;omega
         by_cases hyb:y=38
         · have hyw:(((y.toNat:Nat):Int)==38)=true:=by subst hyb;rfl
           have HQF:Hid (Q=rrGo g2 d u (some (2,38,41,acc.snoc ⟨o,n,b,k⟩))):=qq (by rw[HQ5.out];exact(if_neg hye).trans (if_pos hyb));clear hye hyb;have hmeas:2*u.length+2≤g2∧m+1+u.length≤20000∧nx+1≤N∧u.length+(nx+1)=N∧N - (nx+1)<N - pp∧p<nx+1:=by simp at hle2;omega
           have HME:=qq hmeas;clear hmeas hul hle2 hnx htl1 hgtt;go_wp2_with fail;have hmeas:=HME.out;go_roundw
           case rel=>exact⟨g2,nx+1,m+1,u,_,a5,c5,by go_num,by omega,by omega,by omega,by omega,by omega,by omega,qq HUD.out.symm,HQF,HKF,HXF,HZF,HPF,HBF⟩
           case measure=>simp[intOf];omega
         · have hyw:(((y.toNat:Nat):Int)==38)=false:=by
            have h1:y.toNat≠38:=fun h=>hyb (UInt8.toNat_inj.1 h)
            simp;omega
           have HF:=qq (fun w' hw=>HNO.out w' (by rw[HQ5.out];exact(if_neg hye).trans (if_neg hyb)) hw);clear hye hyb hul hle2 hnx htl1;obtain⟨lz,qz,fz⟩:=HZF.out;go_wp2_with (refine row_go 38 (.tmp 6) (.tmp 129) rfl rfl w.heap.size exZ exZ 38 HPF.out rfl rfl (by kernel_rfl) rfl (by simp[exZ,Value.oneCell']) ?_);intro w9 hb9 hg9;have H41D:=qq (HF.out w9 (bel_gr HBF.out hg9 (Nat.le_refl _)))
           obtain⟨l9,q9,f9⟩:=hb9;clear qz fz lz qx fx lx;go_wp2_with fail;exact bodyPost_ret (v:=.tuple #[.agg exZ,.int .i64 (-1)]) (by simp[results,Tryz.results42,go_sem,q9,f9,exZ]) rfl H41D.out
end Go.Proofs.YtbepkpjcjpmpmaaGreatDoor
