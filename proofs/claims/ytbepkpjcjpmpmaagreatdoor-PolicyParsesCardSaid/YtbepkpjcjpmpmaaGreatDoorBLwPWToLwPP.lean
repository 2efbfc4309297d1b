/- LwPW, ReF, LwPP -/
import Derived.Test.YtbepkpjcjpmpmaaGreatDoorAPolVToPcC
import Derived.Test.YtbepkpjcjpmpmaaGreatDoorBReDToAl29
set_option linter.unusedSimpArgs false
set_option linter.unusedVariables false
set_option maxRecDepth 100000
set_option maxHeartbeats 16000000
namespace Go.Proofs.YtbepkpjcjpmpmaaGreatDoor
open Go.RowKit Go.Shelf
theorem num_err (n:Int) (hn:0≤n∧n≤14) (ea:Int→Addr) (w:World) (h:Errs ea w):Calls Tryz.prog 15 #[errOf ea n] w (Makes (.int .i64 n) w):=by
 by_cases h0:n=0
 · subst h0;have e:errOf ea 0=.nilIface:=rfl;rw[e];exact num_nil w
 · have e:errOf ea n=errV (ea n):=by unfold errOf;rw[if_neg h0]
   rw[e];exact num_some n (by omega) ea w h
def RParEnds (r:PE×Int) (w:World) (e:Ending) (w':World):Prop:=
 ∃a c,e=.returned (.tuple #[.agg (exA r.1 a c),.int .i64 r.2])∧KC w.heap.size w'.heap.size w' r.1.kids a∧Below w.heap.size w w'
theorem pParse_r {s:PStr} (hs:s.length≤20000):pParse s=match rPar s with | some e=>(e,0) | none=>(⟨0,[],false,.nil⟩,4):=by
 unfold pParse;rw[if_neg (by omega),rPar_pPar]
 cases pPar s<;>rfl
theorem rparse_of (s:PStr) (w:World) (hs:s.length≤20000):Calls Tryz.prog 18 #[.string ⟨s.toArray⟩] w (RParEnds (pParse s) w):=by
 have HP:=qq (pParse_r hs);have HRES:Hid (∀r,pParse s=r→∀a c w',KC w.heap.size w'.heap.size w' r.1.kids a→Below w.heap.size w w'→RParEnds (pParse s) w (.returned (.tuple #[.agg (exA r.1 a c),.int .i64 r.2])) w'):=qq (fun r hr a c w' h1 h2=>by rw[hr];exact⟨a,c,rfl,h1,h2⟩);generalize RParEnds (pParse s) w=R at HRES⊢;have HRP:Hid (rPar s=match rrGo (2*s.length+1) 1 s none with
   | some (.cons o n b k .nil,[])=>if rSize ⟨o,n,b,k⟩ 1≤200 then some ⟨o,n,b,k⟩ else none
   | _=>none):=qq rfl
 have HRD:=qq (fun W=>read_all (2*s.length+1) s 0 1 W (by omega) (by omega) hs (by omega) (by omega));have hdz:s.drop 0=s:=rfl;rw[hdz] at HRD;have HSM:=qq (fun o n b k t h=>rr_small (g:=2*s.length+1) (d:=0) (s:=s) (t:=t) (o:=o) (n:=n) (b:=b) (k:=k) hs h);have HON:=qq (fun f t (h:rrGo (2*s.length+1) (0+1) s none=some (f,t))=>rr_one h);rw[show(0+1:Nat)=1 from rfl] at HON;have hsz:=str_size s
 have hgt:¬(20000:Int)<(s.length:Int):=by omega
 have hnl:0≤s.length:=Nat.zero_le _;have HTL:Hid (∀f t,rrGo (2*s.length+1) 1 s none=some (f,t)→t.length≤s.length):=qq (fun f t h=>(rr_suf _ _ _ _ _ _ h).length_le);generalize hq:rrGo (2*s.length+1) 1 s none=q at*;have HSM2:=qq (fun o n b k t (h:q=some (.cons o n b k .nil,t))=>HSM.out o n b k t h);clear HSM hdz hq hs;generalize hN:s.length=N at*;clear hN
 have HBAD:Hid (rPar s=none→∀w',Below w.heap.size w w'→R (.returned (.tuple #[.agg exZ,.int .i64 4])) w'):=qq (fun h w' hw=>HRES.out (⟨0,[],false,.nil⟩,4) (by rw[HP.out,h]) none 0 w' KC.nil hw)
 cases q with
 | none=>
  have HF:=qq (HBAD.out HRP.out);have hne:¬(-1:Int)=(N:Int):=by omega
  clear HP HRES HRP HON HSM2 HTL HBAD;go_enter Tryz.func18,Tryz.ntmps18;go_wp2_with fail;refine(HRD.out _).mono ?_;rintro e w1 ⟨_,hno⟩;obtain⟨rfl,hb1⟩:=hno rfl;have HB1:Hid (Below w.heap.size w w1):=qq (below_then (by go_grown) hb1);have hT1:w1.heap[w.heap.size]? =some (.cells exZ 38 (0,0)):=hp_be (hp_new _ rfl) hb1;have HT1:=qq hT1;have hlt:=(Array.getElem?_eq_some_iff.1 hT1).1;clear hno hb1 hT1
  go_wp2_with (refine row_go 38 (.tmp 2) (.tmp 24) rfl rfl w.heap.size exZ exZ 38 (hp_al HT1.out _) rfl rfl (by kernel_rfl) rfl (by simp[exZ,Value.oneCell']) ?_);intro w9 hb9 hg9;have HEND:=qq (HF.out w9 (bel_gr (bel_alloc HB1.out _) hg9 (Nat.le_refl _)));obtain⟨l9,q9,f9⟩:=hb9;go_wp2_with fail
  exact bodyPost_ret (v:=.tuple #[.agg exZ,.int .i64 4]) (by simp[results,Tryz.results18,go_sem,q9,f9,exZ]) rfl HEND.out
 | some r=>
  obtain⟨f,t⟩:=r;obtain⟨o,n,b,k,rfl⟩:=HON.out f t rfl;have htl:=HTL.out _ t rfl;obtain⟨hn1,hk1,hk2⟩:=HSM2.out o n b k t rfl
  cases t with
  | cons y u=>
   have HF:=qq (HBAD.out HRP.out);have hne:¬(N:Int) - ((y::u).length:Int)=(N:Int):=by simp;omega
   obtain⟨nx,hnx⟩:∃x,x=(N:Int) - ((y::u).length:Int):=⟨_,rfl⟩
   have hne2:¬nx=(N:Int):=by rw[hnx];exact hne
   have HNX:=qq hnx;clear HP HRES HRP HON HSM2 HTL HBAD hne htl hnx;go_enter Tryz.func18,Tryz.ntmps18;go_wp2_with fail;refine(HRD.out _).mono ?_;rintro e w1 ⟨hyes,_⟩;obtain⟨a2,c2,he,hkc,hb1⟩:=hyes o n b k _ rfl;rw[←HNX.out] at he;subst he;have HB1:Hid (Below w.heap.size w w1):=qq (below_then (by go_grown) hb1);have hT1:w1.heap[w.heap.size]? =some (.cells exZ 38 (0,0)):=hp_be (hp_new _ rfl) hb1
   have HT1:=qq hT1;have hlt:=(Array.getElem?_eq_some_iff.1 hT1).1;clear hyes hb1 hT1 hkc;go_wp2_with (refine row_go 38 (.tmp 2) (.tmp 24) rfl rfl w.heap.size exZ exZ 38 (hp_al HT1.out _) rfl rfl (by kernel_rfl) rfl (by simp[exZ,Value.oneCell']) ?_);intro w9 hb9 hg9;have HEND:=qq (HF.out w9 (bel_gr (bel_alloc HB1.out _) hg9 (Nat.le_refl _)));obtain⟨l9,q9,f9⟩:=hb9;go_wp2_with fail
   exact bodyPost_ret (v:=.tuple #[.agg exZ,.int .i64 4]) (by simp[results,Tryz.results18,go_sem,q9,f9,exZ]) rfl HEND.out
  | nil=>
   have HRP2:Hid (rPar s=if rSize ⟨o,n,b,k⟩ 1≤200 then some ⟨o,n,b,k⟩ else none):=qq HRP.out;have HSZ:=qq (fun(B E:Nat) a c W (hk:KC B E W k a) (hE:E≤W.heap.size)=>size_go (k.sz+1) ⟨o,n,b,k⟩ 1 a c B E W (Nat.lt_succ_self _) hn1 hk1 hk2 hk hE (by omega))
   have HGOOD:Hid (rSize ⟨o,n,b,k⟩ 1≤200→∀a c w',KC w.heap.size w'.heap.size w' k a→Below w.heap.size w w'→R (.returned (.tuple #[.agg #[o,.string ⟨n.toArray⟩,.bool b,.slice a k.len c],.int .i64 0])) w'):=qq (fun h a c w' h1 h2=>HRES.out (⟨o,n,b,k⟩,0) (by rw[HP.out,HRP2.out,if_pos h]) a c w' h1 h2)
   have HBAD2:Hid (¬rSize ⟨o,n,b,k⟩ 1≤200→∀w',Below w.heap.size w w'→R (.returned (.tuple #[.agg exZ,.int .i64 4])) w'):=qq (fun h=>HBAD.out (by rw[HRP2.out,if_neg h]));unfold exA at HSZ;dsimp only at HSZ;obtain⟨z,hz⟩:∃z,z=rSize ⟨o,n,b,k⟩ 1:=⟨_,rfl⟩
   rw[←hz] at HSZ HGOOD HBAD2;obtain⟨nk,hnk⟩:∃z,z=k.len:=⟨_,rfl⟩
   rw[←hnk] at HSZ HGOOD;have HNK:=qq hnk;have e0:(N:Int) - (([]:PStr).length:Int)=(N:Int):=by simp
   clear HP HRES HRP HON HSM2 HTL HBAD HRP2 htl hn1 hk1 hk2 hz hnk;go_enter Tryz.func18,Tryz.ntmps18;go_wp2_with fail;refine(HRD.out _).mono ?_;rintro e w1 ⟨hyes,_⟩;obtain⟨a2,c2,he,hkc,hb1⟩:=hyes o n b k _ rfl;rw[e0,←HNK.out] at he;subst he;have HB1:Hid (Below w.heap.size w w1):=qq (below_then (by go_grown) hb1);have hT1:w1.heap[w.heap.size]? =some (.cells exZ 38 (0,0)):=hp_be (hp_new _ rfl) hb1
   have HT1:=qq hT1;have hlt:=(Array.getElem?_eq_some_iff.1 hT1).1;have HKC:=qq hkc;have hbz:=hb1.size;simp only[World.size_alloc] at hbz;have hba:Below w1.heap.size w1 (w1.alloc (.cells #[o,.string ⟨n.toArray⟩,.bool b,.slice a2 nk c2] 38)):=(Below.refl _ _).alloc (Nat.le_refl _) _;have HBA:=qq hba;have HSZ2:=qq (HSZ.out _ _ a2 c2 _ (HKC.out.below (Nat.le_refl _) hba) (by simp))
   have KB:=qq (Blk.fresh w1 #[o,.string ⟨n.toArray⟩,.bool b,.slice a2 nk c2] 38 _ rfl);clear hyes hb1 hT1 hkc e0 hba;go_wp2_with fail;refine HSZ2.out.mono ?_;rintro e w2 ⟨rfl,hb2⟩;have HT2:=qq (hp_be (hp_al HT1.out _) hb2);have HB12:=qq (below_then HBA.out hb2);have HK2:=qq (KB.out.below hb2);clear hb2;obtain⟨lk,qk,fk⟩:=HK2.out;by_cases hz:z≤200
   · have hz':¬(200:Int)<(z:Int):=by omega
     have HG:=qq (HGOOD.out hz);clear hz;go_wp2_with (refine row_go 38 (.tmp 2) (.tmp 25) rfl rfl w.heap.size #[.int .i64 o,.string ⟨n.toArray⟩,.bool b,.slice a2 nk c2] exZ 38 HT2.out rfl rfl (by kernel_rfl) rfl (by simp[Value.oneCell']) ?_);intro w9 hb9 hg9;have h9z:=hg9.size;have hbz2:=HB12.out.size
     have HEND:=qq (HG.out a2 c2 w9 (((HKC.out.below (Nat.le_refl _) HB12.out)).keep (by simp) (by omega) (fun j hj1 hj2=>hg9.block j (by omega) (fun e=>by injection e with e;simp at hj1;omega))) (bel_gr (below_then HB1.out HB12.out) hg9 (Nat.le_refl _)));obtain⟨l9,q9,f9⟩:=hb9;clear qk fk;go_wp2_with fail
     exact bodyPost_ret (v:=.tuple #[.agg #[o,.string ⟨n.toArray⟩,.bool b,.slice a2 nk c2],.int .i64 0]) (by simp[results,Tryz.results18,go_sem,q9,f9]) rfl HEND.out
   · have hz':(200:Int)<(z:Int):=by omega
     have HG:=qq (HBAD2.out hz);clear hz qk fk;go_wp2_with (refine row_go 38 (.tmp 2) (.tmp 24) rfl rfl w.heap.size exZ exZ 38 HT2.out rfl rfl (by kernel_rfl) rfl (by simp[exZ,Value.oneCell']) ?_);intro w9 hb9 hg9;have HEND:=qq (HG.out w9 (bel_gr (below_then HB1.out HB12.out) hg9 (Nat.le_refl _)));obtain⟨l9,q9,f9⟩:=hb9;go_wp2_with fail
     exact bodyPost_ret (v:=.tuple #[.agg exZ,.int .i64 4]) (by simp[results,Tryz.results18,go_sem,q9,f9,exZ]) rfl HEND.out
theorem pParse_ok {s:PStr} (hs:s.length≤20000):((pParse s).2=0∨(pParse s).2=4)∧(pParse s).1.kids.len≤100000∧(pParse s).1.kids.small:=by
 unfold pParse;rw[if_neg (by omega)]
 cases h:pPar s with
 | none=>exact⟨.inr rfl,by simp[PF.len],True.intro⟩
 | some e=>
  refine⟨.inl rfl,?_⟩;dsimp only;unfold pPar at h;split at h
  · rename_i o n b k hq
    split at h
    · injection h with h
      subst h;obtain⟨_,h2,h3⟩:=rd_small hs hq;exact⟨h2,h3⟩
    · cases h
  · cases h
theorem law_pparses (s:PStr) (ea:Int→Addr) (w:World) (hE:Errs ea w):Calls Tryz.prog 4 #[.string ⟨s.toArray⟩] w (Makes (.bool true) w):=by
 have HA:=qq (alive29_of ea w hE);have HEE:=qq hE;have hsz:=str_size s;clear hE;by_cases hlong:1000<s.length
 · have hg:(1000:Int)<(s.length:Int):=by omega
   clear hlong;generalize s.length=N at*;go_enter Tryz.func4,Tryz.ntmps4;go_wp2_with fail;refine HA.out.mono ?_;rintro e w1 ⟨rfl,hb1⟩;have HB1:=qq hb1;clear hb1;go_wp2_with fail;go_ret;exact⟨rfl,HB1.out⟩
 · have hg:¬(1000:Int)<(s.length:Int):=by omega
   have HP:=qq (fun W (hW:Below w.heap.size w W)=>parse_of s ea W (by omega) (HEE.out.below hW));have HR:=qq (fun W=>rparse_of s W (by omega));obtain⟨h1,h2,h3⟩:=pParse_ok (s:=s) (by omega);have HNE:=qq (fun W (hW:Below w.heap.size w W)=>num_err (pParse s).2 (by rcases h1 with h | h<;>rw[h]<;>omega) ea W (HEE.out.below hW));obtain⟨r,hr⟩:∃r,r=pParse s:=⟨_,rfl⟩
   rw[←hr] at HP HR HNE h1 h2 h3;obtain⟨E,n⟩:=r;have HTO:=qq (fun(B F:Nat) (a:Option Addr) (c:Nat) W (hk:KC B F W E.kids a) (hf:F≤W.heap.size)=>told_go (E.kids.sz+1) E a c B F W (by omega) h2 h3 hk hf)
   have HSA:=qq (fun(B F B2 F2:Nat) (a a2:Option Addr) (c c2:Nat) W (hk:KC B F W E.kids a) (hf:F≤W.heap.size) (hk2:KC B2 F2 W E.kids a2) (hf2:F2≤W.heap.size)=>rsame_go (E.kids.sz+1) E E a a2 c c2 B F B2 F2 W (by omega) h2 h3 h2 h3 hk hf hk2 hf2);have heq:decide (E=E)=true:=by simp
   rw[heq] at HSA;dsimp only at HNE;clear h1 h2 h3 hr heq hlong;generalize s.length=N at*;obtain⟨EO,ENM,EOPT,EK⟩:=E;unfold exA at*;dsimp only at*;go_enter Tryz.func4,Tryz.ntmps4;go_wp2_with fail;refine HA.out.mono ?_;rintro e w1 ⟨rfl,hb1⟩;have HB1:=qq hb1;clear hb1 HA;go_wp2_with fail;refine(HP.out _ HB1.out).mono ?_;rintro e w2 ⟨a,c,rfl,hk2,hb2⟩;unfold exA;dsimp only at hk2⊢
   have HB2:=qq (below_then HB1.out hb2);have HK2:=qq (fun W (hW:Below w2.heap.size w2 W)=>hk2.below (Nat.le_refl _) hW);have hba:Below w2.heap.size w2 (w2.alloc (.cells #[EO,.string ⟨ENM.toArray⟩,.bool EOPT,.slice a EK.len c] 27)):=(Below.refl _ _).alloc (Nat.le_refl _) _;have HBA:=qq hba;have KB:=qq (Blk.fresh w2 #[EO,.string ⟨ENM.toArray⟩,.bool EOPT,.slice a EK.len c] 27 _ rfl)
   clear hk2 hb2 HP hba;go_wp2_with fail;refine(HR.out _).mono ?_;rintro e w3 ⟨a3,c3,rfl,hk3,hb3⟩;unfold exA;dsimp only at hk3⊢;have HB23:=qq (below_then HBA.out hb3);have HK3:=qq (fun W (hW:Below w3.heap.size w3 W)=>hk3.below (Nat.le_refl _) hW);have HX3:=qq (KB.out.below hb3)
   have hbc:Below w3.heap.size w3 (w3.alloc (.cells #[EO,.string ⟨ENM.toArray⟩,.bool EOPT,.slice a3 EK.len c3] 38)):=(Below.refl _ _).alloc (Nat.le_refl _) _;have HBC:=qq hbc;have KC3:=qq (Blk.fresh w3 #[EO,.string ⟨ENM.toArray⟩,.bool EOPT,.slice a3 EK.len c3] 38 _ rfl);obtain⟨lx,qx,fx⟩:=HX3.out;clear hk3 hb3 HR hbc;go_wp2_with fail;clear qx fx lx
   obtain⟨W,hW⟩:∃W,W=w3.alloc (.cells #[EO,.string ⟨ENM.toArray⟩,.bool EOPT,.slice a3 EK.len c3] 38):=⟨_,rfl⟩
   rw[←hW] at HBC KC3⊢;have HX4:=qq (HX3.out.below HBC.out);have HKA:=qq (fun W' (h:Below W.heap.size W W')=>HK2.out W' (below_then (below_then HB23.out HBC.out) h));have HKB:=qq (fun W' (h:Below W.heap.size W W')=>HK3.out W' (below_then HBC.out h));have HBW:=qq (below_then HB2.out (below_then HB23.out HBC.out));have hs2:=(below_then HB23.out HBC.out).size;have hs3:=HBC.out.size;clear hW
   refine reg_start (fun w'=>Below W.heap.size W w') (by kernel_rfl) (Below.refl _ _).drew ?_;rintro w4 hHeld;refine takeM (d:=some 22) 0 rfl rfl hHeld (fun w' hS'=>by have q:=(HX4.out.below hS').cell;clear hS';go_simp;(try rfl)) ?_;simp only[puts];refine takeM (d:=some 24) 2 rfl rfl hHeld (fun w' hS'=>by have q:=(KC3.out.below hS').cell;clear hS';go_simp;(try rfl)) ?_;simp only[puts]
   refine one_M 1 (by kernel_rfl) ?_;refine wpOp_call (d:=some 23) 1 13 _ _ [.agg #[EO,.string ⟨ENM.toArray⟩,.bool EOPT,.slice a EK.len c]] rfl rfl rfl (enters_of Tryz.func13 (by kernel_rfl) rfl) (by rfl) (by rfl) ?_;refine(HTO.out _ _ a c _ (HKA.out _ hHeld) (Nat.le_trans hs2 hHeld.size)).mono ?_;rintro e w5 ⟨a4,c4,rfl,hk4,hb5⟩;unfold exA;dsimp only at hk4⊢
   refine ret_S (below_then hHeld hb5) (fun hHeld=> ?_);simp only[puts];refine one_M 3 (by kernel_rfl) ?_;refine wpOp_call (d:=some 25) 3 19 _ _ [.agg #[EO,.string ⟨ENM.toArray⟩,.bool EOPT,.slice a4 EK.len c4],.agg #[EO,.string ⟨ENM.toArray⟩,.bool EOPT,.slice a3 EK.len c3]] rfl rfl rfl (enters_of Tryz.func19 (by kernel_rfl) rfl) (by rfl) (by rfl) ?_
   refine(HSA.out _ _ _ _ a4 a3 c4 c3 _ hk4 (Nat.le_refl _) (HKB.out _ hHeld) (Nat.le_trans hs3 hHeld.size)).mono ?_;rintro e w6 ⟨rfl,hb6⟩;refine ret_S (below_then hHeld hb6) (fun hHeld=> ?_);simp only[puts];refine takeM (d:=some 26) 4 rfl rfl hHeld (fun w' hS'=>by clear hS';go_simp;(try rfl)) ?_;simp only[puts]
   refine takeM (d:=some 27) 5 rfl rfl hHeld (fun w' hS'=>by clear hS';go_simp;(try rfl)) ?_;simp only[puts];refine takeM (d:=some 29) 7 rfl rfl hHeld (fun w' hS'=>by clear hS';go_simp;(try rfl)) ?_;simp only[puts];refine one_M 6 (by kernel_rfl) ?_;refine wpOp_call (d:=some 28) 6 15 _ _ [errOf ea n] rfl rfl rfl (enters_of Tryz.func15 (by kernel_rfl) rfl) (by rfl) (by rfl) ?_
   refine(HNE.out _ (below_then HBW.out hHeld)).mono ?_;rintro e w7 ⟨rfl,hb7⟩;refine ret_S (below_then hHeld hb7) (fun hHeld=> ?_);simp only[puts];refine takeM (d:=some 30) 8 rfl rfl hHeld (fun w' hS'=>by clear hS';go_simp;(try rfl)) ?_;simp only[puts];refine takeM (d:=some 31) 9 rfl rfl hHeld (fun w' hS'=>by clear hS';go_simp;(try rfl)) ?_;simp only[puts]
   refine takeM (d:=some 2) 10 rfl rfl hHeld (fun w' hS'=>by clear hS';go_simp;(try rfl)) ?_;simp only[puts];refine doneM (by kernel_rfl) ?_ _;have HBF:=qq (below_then HBW.out hHeld);go_wp2_with fail
   all_goals go_ret
   all_goals exact⟨ret_bool (by simp),HBF.out⟩
end Go.Proofs.YtbepkpjcjpmpmaaGreatDoor
