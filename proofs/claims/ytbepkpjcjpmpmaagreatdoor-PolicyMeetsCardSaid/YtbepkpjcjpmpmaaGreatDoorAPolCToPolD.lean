/- PolC, PolD -/
import Derived.Test.YtbepkpjcjpmpmaaGreatDoorAPolAToPolB
import Derived.Recover
import Derived.Defers
set_option linter.unusedSimpArgs false
set_option linter.unusedVariables false
set_option maxRecDepth 100000
set_option maxHeartbeats 16000000
namespace Go.Proofs.YtbepkpjcjpmpmaaGreatDoor
open Go.RowKit Go.Shelf
def PF.small:PF→Prop
 | .nil=>True
 | .cons _ nm _ kids rest=>nm.length≤100000∧kids.len≤100000∧kids.small∧rest.small
theorem PF.small_at:∀(f:PF) (i:Nat) (e:PE),f.small→f.at i=some e→e.nm.length≤100000∧e.kids.len≤100000∧e.kids.small
 | .nil,i,e,_,h=>by cases h
 | .cons o n b k r,0,e,hs,h=>by injection h with h;subst h;exact⟨hs.1,hs.2.1,hs.2.2.1⟩
 | .cons o n b k r,i+1,e,hs,h=>PF.small_at r i e hs.2.2.2 h
theorem pCounts_le:∀(l:PF) (d m r:Nat),m≤200→pCounts l d m=some r→m≤r∧r≤200:=by
 intro l d m r hm h;have h2:=counts_size l d 0 m (by omega);rw[Nat.zero_add] at h2;rw[h2] at h;split at h
 · injection h with h
   have:=rSizes_ge l d m hm;omega
 · cases h
theorem pCounts_at {l:PF} {i:Nat} {k:PE} (h:l.at i=some k) (d m:Nat):pCounts (l.from i) d m=(pCount k d m).bind fun r=>pCounts (l.from (i+1)) d r:=by
 rw[PF.from_at l i k h];generalize l.from (i+1)=t;simp only[pCount,PE.one,pCounts];split
 · rfl
 · cases pCounts k.kids (d+1) (m+1)<;>rfl
def CountEnds (q:Option Nat) (ea:Int→Addr) (w:World) (e:Ending) (w':World):Prop:=
 (∀r,q=some r→e=.returned (.int .i64 (r:Int))∧Below w.heap.size w w')∧(q=none→e=.panicked [{v:=errV (ea 4),recovered:=false}]∧Below w.heap.size w w')
theorem count_go (g : Nat) : ∀ (e : PE) (d m : Nat) (a : Option Addr) (c : Nat) (B E : Nat) (ea : Int → Addr) (w : World), e.kids.sz < g → e.nm.length ≤ 100000 → e.kids.len ≤ 100000 → e.kids.small → KC B E w e.kids a → E ≤ w.heap.size → Errs ea w → d ≤ 1000 → m ≤ 1000 →
    Calls Tryz.prog 37 #[.agg #[e.op,.string ⟨e.nm.toArray⟩,.bool e.opt,.slice a e.kids.len c],.int .i64 (d:Int),.int .i64 (m:Int)] w (CountEnds (pCount e d m) ea w):=by
 induction g with
 | zero=>intro e d m a c B E ea w hg;omega
 | succ g ih=>
  rintro⟨OP,nm,opt,kids⟩ d m a c B E ea w hg hnm hkl hsm hK hE hEA hd hm;dsimp only at hg hnm hkl hsm hK⊢;have IH:=qq ih;have HNM:=qq (fun W=>isName_of nm W hnm);have HGE:Hid (∀W,Below w.heap.size w W→W.cell? ⟨0,0,none⟩=some (errV (ea 4))):=qq (fun W (hW:Below w.heap.size w W)=>(hEA.below hW).e4);have HEA:=qq hEA;have HKC:=qq (fun W (hW:Below w.heap.size w W)=>hK.below hE hW)
  have HSM:=qq hsm;have HG:=qq hg;have HKL:=qq hkl;have HC:Hid (pCount ⟨OP,nm,opt,kids⟩ d m=if 12<d∨200<m+1∨pOk OP nm opt kids=false then none else pCounts kids (d+1) (m+1)):=qq (by
    unfold pCount PE.one
    conv=>lhs;unfold pCounts
    split
    · rfl
    · cases pCounts kids (d+1) (m+1)<;>simp[pCounts])
  have HPO:Hid (pOk OP nm opt kids=if OP=1 then isNm nm && decide (kids.len=0) else decide (OP=2∨OP=3) && nm.isEmpty && !opt):=qq rfl;obtain⟨n,hn⟩:∃n,n=kids.len:=⟨_,rfl⟩
  have HN:=qq hn;rw[←hn] at hkl HPO⊢;have KB:=qq (Blk.fresh w #[OP,.string ⟨nm.toArray⟩,.bool opt,.slice a n c] 27 _ rfl);have HB0:Hid (Below w.heap.size w (w.alloc (.cells #[OP,.string ⟨nm.toArray⟩,.bool opt,.slice a n c] 27))):=qq ((Below.refl _ _).alloc (Nat.le_refl _) _);have g4:=HGE.out _ HB0.out;have gz:0<w.heap.size:=cell_lt (HGE.out _ (Below.refl _ _));have hE0:E≤w.heap.size:=hE
  have hstr:((⟨nm.toArray⟩:ByteArray).toList==[])=nm.isEmpty:=by rw[ByteArray.toList_eq];cases nm<;>simp
  clear hK hE hEA hsm hg hnm ih hn;generalize hPC:pCount ⟨OP,nm,opt,kids⟩ d m=PC at*;clear hPC;go_enter Tryz.func37,Tryz.ntmps37;by_cases hbad:12<d∨200<m+1
  · have HNO:Hid (PC=none):=qq (by rw[HC.out,if_pos (by rcases hbad with h | h;exact .inl h;exact .inr (.inl h))]);have hcond:((d:Int)≤12)=False∨((d:Int)≤12)∧¬((m:Int)+1≤200):=by
     by_cases h:(d:Int)≤12
     · exact .inr ⟨h,by omega⟩
     · exact .inl (by simp;omega)
    clear hbad;rcases hcond with h1 | ⟨h1,h2⟩
    · have h1':¬(d:Int)≤12:=by rw[h1];simp
      clear h1;go_wp2_with fail;refine(fail_no _ _).mono ?_;rintro e w3 ⟨rfl,rfl⟩;exact⟨rfl,fun r h=>(by rw[HNO.out] at h;cases h),fun _=>⟨rfl,HB0.out⟩⟩
    · go_wp2_with fail;refine(fail_no _ _).mono ?_;rintro e w3 ⟨rfl,rfl⟩;exact⟨rfl,fun r h=>(by rw[HNO.out] at h;cases h),fun _=>⟨rfl,HB0.out⟩⟩
  · have hd12:(d:Int)≤12:=by omega
    have hm200:(m:Int)+1≤200:=by omega
    have HC2:Hid (PC=if pOk OP nm opt kids=false then none else pCounts kids (d+1) (m+1)):=qq (by
      rw[HC.out];by_cases h:pOk OP nm opt kids=false
      · rw[if_pos (.inr (.inr h)),if_pos h]
      · rw[if_neg h,if_neg (by rintro(e | e | e);exact hbad (.inl e);exact hbad (.inr e);exact h e)])
    clear hbad HC;by_cases h1:OP=1
    · subst h1;have HPO1:Hid (pOk 1 nm opt kids=(isNm nm && decide (n=0))):=qq (by rw[HPO.out,if_pos rfl]);clear HPO
      cases hq:isNm nm with
      | false=>
       have HNO:Hid (PC=none):=qq (by rw[HC2.out,if_pos (by rw[HPO1.out,hq];rfl)]);rw[hq] at HNM;clear hq;obtain⟨l0,q0,f0⟩:=KB.out;go_wp2_with fail;refine(fail_yes _ _).mono ?_;rintro e w3 ⟨rfl,rfl⟩;go_wp2_with fail;clear l0 q0 f0
       refine reg_start (fun w'=>Blk w' w.heap.size #[.int .i64 1,.string ⟨nm.toArray⟩,.bool opt,.slice a n c]∧Below w.heap.size w w') (by kernel_rfl) ⟨KB.out.drew,bel_drew HB0.out⟩ ?_;rintro w1 hHeld;refine takeM (d:=some 25) 0 rfl rfl hHeld (fun w' hS'=>by clear hS';go_simp;(try rfl)) ?_;simp only[puts]
       refine takeM (d:=some 26) 1 rfl rfl hHeld (fun w' hS'=>by have qA:=hS'.1.cell;clear hS';go_simp;(try rfl)) ?_;simp only[puts];refine takeM (d:=some 34) 9 rfl rfl hHeld (fun w' hS'=>by have qG:=HGE.out _ hS'.2;clear hS';go_simp;(try rfl)) ?_;simp only[puts];refine one_M 2 (by kernel_rfl) ?_
       refine wpOp_call (d:=some 27) 2 59 _ _ [.string ⟨nm.toArray⟩] rfl rfl rfl (enters_of Tryz.func59 (by kernel_rfl) rfl) (by rfl) (by rfl) ?_;refine(HNM.out _).mono ?_;rintro e w2 ⟨rfl,rfl⟩;refine ret_S hHeld (fun hHeld=> ?_);simp only[puts];refine takeM (d:=some 28) 3 rfl rfl hHeld (fun w' hS'=>by clear hS';go_simp;(try rfl)) ?_;simp only[puts];refine skipM (d:=some 29) 4 rfl rfl hHeld ?_
       simp only[puts];refine skipM (d:=some 30) 5 rfl rfl hHeld ?_;simp only[puts];refine skipM (d:=some 31) 6 rfl rfl hHeld ?_;simp only[puts];refine skipM (d:=some 32) 7 rfl rfl hHeld ?_;simp only[puts];refine takeM (d:=some 33) 8 rfl rfl hHeld (fun w' hS'=>by clear hS';go_simp;(try rfl)) ?_;simp only[puts];refine one_M 10 (by kernel_rfl) ?_
       refine wpOp_die [{v:=errV (ea 4),recovered:=false}] 10 41 _ _ [.bool false,errV (ea 4)] rfl rfl (enters_of Tryz.func41 (by kernel_rfl) rfl) (by rfl) (by rfl) ?_;refine(fail_no _ _).mono ?_;rintro e w8 ⟨rfl,rfl⟩;exact⟨rfl,rfl,⟨fun r h=>(by rw[HNO.out] at h;cases h),fun _=>⟨rfl,hHeld.2⟩⟩⟩
      | true=>
       rw[hq] at HNM HPO1;clear hq;by_cases hk0:n=0
       · subst hk0;have hkn:kids=.nil:=PF.len_zero HN.out.symm;have HYES:Hid (PC=some (m+1)):=qq (by rw[HC2.out,if_neg (by rw[HPO1.out];simp),hkn];rfl);obtain⟨l0,q0,f0⟩:=KB.out;go_wp2_with fail;refine(fail_yes _ _).mono ?_;rintro e w3 ⟨rfl,rfl⟩;go_wp2_with fail;clear l0 q0 f0
         refine reg_start (fun w'=>Blk w' w.heap.size #[.int .i64 1,.string ⟨nm.toArray⟩,.bool opt,.slice a 0 c]∧Below w.heap.size w w') (by kernel_rfl) ⟨KB.out.drew,bel_drew HB0.out⟩ ?_;rintro w1 hHeld;refine takeM (d:=some 25) 0 rfl rfl hHeld (fun w' hS'=>by clear hS';go_simp;(try rfl)) ?_;simp only[puts]
         refine takeM (d:=some 26) 1 rfl rfl hHeld (fun w' hS'=>by have qA:=hS'.1.cell;clear hS';go_simp;(try rfl)) ?_;simp only[puts];refine takeM (d:=some 34) 9 rfl rfl hHeld (fun w' hS'=>by have qG:=HGE.out _ hS'.2;clear hS';go_simp;(try rfl)) ?_;simp only[puts];refine one_M 2 (by kernel_rfl) ?_
         refine wpOp_call (d:=some 27) 2 59 _ _ [.string ⟨nm.toArray⟩] rfl rfl rfl (enters_of Tryz.func59 (by kernel_rfl) rfl) (by rfl) (by rfl) ?_;refine(HNM.out _).mono ?_;rintro e w2 ⟨rfl,rfl⟩;refine ret_S hHeld (fun hHeld=> ?_);simp only[puts];refine takeM (d:=some 28) 3 rfl rfl hHeld (fun w' hS'=>by clear hS';go_simp;(try rfl)) ?_;simp only[puts]
         refine takeM (d:=some 29) 4 rfl rfl hHeld (fun w' hS'=>by clear hS';go_simp;(try rfl)) ?_;simp only[puts];refine takeM (d:=some 30) 5 rfl rfl hHeld (fun w' hS'=>by have qA:=hS'.1.cell;clear hS';go_simp;(try rfl)) ?_;simp only[puts];refine takeM (d:=some 31) 6 rfl rfl hHeld (fun w' hS'=>by clear hS';go_simp;(try rfl)) ?_;simp only[puts]
         refine takeM (d:=some 32) 7 rfl rfl hHeld (fun w' hS'=>by clear hS';go_simp;(try rfl)) ?_;simp only[puts];refine takeM (d:=some 33) 8 rfl rfl hHeld (fun w' hS'=>by clear hS';go_simp;(try rfl)) ?_;simp only[puts];refine one_M 10 (by kernel_rfl) ?_;refine wpOp_call (d:=some 35) 10 41 _ _ [.bool true,errV (ea 4)] rfl rfl rfl (enters_of Tryz.func41 (by kernel_rfl) rfl) (by rfl) (by rfl) ?_
         refine(fail_yes _ _).mono ?_;rintro e w3 ⟨rfl,rfl⟩;refine ret_S hHeld (fun hHeld=> ?_);simp only[puts];refine doneM (by kernel_rfl) ?_ _;have HB1:=qq hHeld.2;have K1:=qq hHeld.1;obtain⟨l1,q1,f1⟩:=K1.out;clear hHeld;go_wp2_with fail;go_loopw [2,52] (fun mm cc wr=>mm=.int .i64 ((m:Int)+1)∧cc=.int .i64 0∧Hid (Below w.heap.size w wr)) (fun _ _ _=>0)
         case atStart=>exact⟨by first | rfl | trivial,by first | rfl | trivial,HB1⟩
         case round=>
          obtain⟨rfl,rfl,HB2⟩:=hrel;go_wp2_with fail;go_ret;exact⟨fun r h=>(by rw[HYES.out] at h;injection h with h;subst h;exact⟨rfl,HB2.out⟩),fun h=>(by rw[HYES.out] at h;cases h)⟩
       · have HNO:Hid (PC=none):=qq (by rw[HC2.out,if_pos (by rw[HPO1.out];simp[hk0])]);have hk0':((n:Int)==0)=false:=by simpa using hk0
         obtain⟨l0,q0,f0⟩:=KB.out;go_wp2_with fail;refine(fail_yes _ _).mono ?_;rintro e w3 ⟨rfl,rfl⟩;go_wp2_with fail;clear l0 q0 f0;refine reg_start (fun w'=>Blk w' w.heap.size #[.int .i64 1,.string ⟨nm.toArray⟩,.bool opt,.slice a n c]∧Below w.heap.size w w') (by kernel_rfl) ⟨KB.out.drew,bel_drew HB0.out⟩ ?_;rintro w1 hHeld
         refine takeM (d:=some 25) 0 rfl rfl hHeld (fun w' hS'=>by clear hS';go_simp;(try rfl)) ?_;simp only[puts];refine takeM (d:=some 26) 1 rfl rfl hHeld (fun w' hS'=>by have qA:=hS'.1.cell;clear hS';go_simp;(try rfl)) ?_;simp only[puts];refine takeM (d:=some 34) 9 rfl rfl hHeld (fun w' hS'=>by have qG:=HGE.out _ hS'.2;clear hS';go_simp;(try rfl)) ?_;simp only[puts]
         refine one_M 2 (by kernel_rfl) ?_;refine wpOp_call (d:=some 27) 2 59 _ _ [.string ⟨nm.toArray⟩] rfl rfl rfl (enters_of Tryz.func59 (by kernel_rfl) rfl) (by rfl) (by rfl) ?_;refine(HNM.out _).mono ?_;rintro e w2 ⟨rfl,rfl⟩;refine ret_S hHeld (fun hHeld=> ?_);simp only[puts];refine takeM (d:=some 28) 3 rfl rfl hHeld (fun w' hS'=>by clear hS';go_simp;(try rfl)) ?_;simp only[puts]
         refine takeM (d:=some 29) 4 rfl rfl hHeld (fun w' hS'=>by clear hS';go_simp;(try rfl)) ?_;simp only[puts];refine takeM (d:=some 30) 5 rfl rfl hHeld (fun w' hS'=>by have qA:=hS'.1.cell;clear hS';go_simp;(try rfl)) ?_;simp only[puts];refine takeM (d:=some 31) 6 rfl rfl hHeld (fun w' hS'=>by clear hS';go_simp;(try rfl)) ?_;simp only[puts]
         refine takeM (d:=some 32) 7 rfl rfl hHeld (fun w' hS'=>by clear hS';go_simp;(try rfl)) ?_;simp only[puts];refine takeM (d:=some 33) 8 rfl rfl hHeld (fun w' hS'=>by clear hS';go_simp;(try rfl)) ?_;simp only[puts];refine one_M 10 (by kernel_rfl) ?_
         refine wpOp_die [{v:=errV (ea 4),recovered:=false}] 10 41 _ _ [.bool false,errV (ea 4)] rfl rfl (enters_of Tryz.func41 (by kernel_rfl) rfl) (by rfl) (by rfl) ?_;refine(fail_no _ _).mono ?_;rintro e w8 ⟨rfl,rfl⟩;exact⟨rfl,rfl,⟨fun r h=>(by rw[HNO.out] at h;cases h),fun _=>⟨rfl,hHeld.2⟩⟩⟩
    · have h1b:(OP==1)=false:=by simpa using h1
      by_cases h23:OP=2∨OP=3
      · have HPO2:Hid (pOk OP nm opt kids=(nm.isEmpty && !opt)):=qq (by rw[HPO.out,if_neg h1];simp[h23]);clear HPO;by_cases hok:nm.isEmpty=true∧opt=false
        · obtain⟨hok1,hok2⟩:=hok;subst hok2;have HYES:Hid (PC=pCounts kids (d+1) (m+1)):=qq (by rw[HC2.out,if_neg (by rw[HPO2.out,hok1];simp)]);obtain rfl:nm=[]:=by simpa using hok1
          clear hok1 HC2 hstr;rcases h23 with rfl | rfl
          all_goals
           obtain⟨l0,q0,f0⟩:=KB.out;go_wp2_with fail;refine(fail_yes _ _).mono ?_;rintro e w3 ⟨rfl,rfl⟩;go_wp2_with fail;refine(fail_yes _ _).mono ?_;rintro e w3 ⟨rfl,rfl⟩;go_wp2_with fail;have KX:=qq KB.out;clear l0 q0 f0
           go_loopw [2,52] (fun mm cc wr=>∃(i q:Nat),i≤n∧q≤200∧mm=.int .i64 (q:Int)∧cc=.int .i64 (i:Int)∧Hid (pCounts kids (d+1) (m+1)=pCounts (kids.from i) (d+1) q)∧Hid (Below w.heap.size w wr)) (fun _ cc _=>n - (intOf cc).toNat)
           case atStart=>exact⟨0,m+1,by omega,by omega,by first | rfl | go_num,by first | rfl | go_num,qq (by cases kids<;>rfl),HB0⟩
           case round=>
            obtain⟨i,q,hi,hq,rfl,rfl,HP,HB⟩:=hrel;have hi0:(0:Int)≤(i:Int):=by omega
            by_cases hlt:i<n
            · have hi1:(i:Int)<(n:Int):=by omega
              obtain⟨k,hk⟩:=PF.at_lt kids i (by rw[←HN.out];exact hlt);have hne:kids≠.nil:=by rintro rfl;cases hk
              obtain⟨b,o,rfl,hbB,hbE,hkt⟩:=HKC.out _ HB.out hne;obtain⟨c0,c1,c2,ka,kc,c3,hkk⟩:=KT.at kids i k b o hk hkt;have hwr:=HB.out.size;have hbw:b<wr.heap.size:=by omega
              have hsm:=PF.small_at kids i k HSM.out hk;have HPA:=qq (pCounts_at hk (d+1) q);obtain⟨nk,hnk⟩:∃x,x=k.kids.len:=⟨_,rfl⟩
              have HCK:=qq (fun W (hb:Below wr.heap.size wr W)=>IH.out k (d+1) q ka kc B E ea W (by have:=PF.at_sz kids i k hk;have:=HG.out;omega) hsm.1 hsm.2.1 hsm.2.2 (hkk.below (by omega) hb) (by have:=hb.size;omega) (HEA.out.below (below_then HB.out hb)) (by omega) (by omega));rw[←hnk] at c3;rw[←hnk] at HCK;simp only[encStr] at c1;obtain⟨kop,knm,kopt,kkids⟩:=k;dsimp only at c0 c1 c2 c3 HCK
              clear hne hkt hkk hsm hnk hk;go_wp2_with fail;refine(HCK.out _ ((Below.refl _ _).alloc (Nat.le_refl _) _)).mono ?_;rintro e w5 ⟨hyes,hno⟩
              cases hpc:pCount ⟨kop,knm,kopt,kkids⟩ (d+1) q with
              | none=>
               obtain⟨rfl,hb5⟩:=hno hpc;have HNO:Hid (PC=none):=qq (by rw[HYES.out,HP.out,HPA.out,hpc];rfl);have hb6:=below_then (bel_alloc HB.out _) hb5;clear hyes hno hpc c0 c1 c2 c3;exact⟨rfl,fun r h=>(by rw[HNO.out] at h;cases h),fun _=>⟨rfl,hb6⟩⟩
              | some r=>
               obtain⟨rfl,hb5⟩:=hyes r hpc;have HP2:Hid (pCounts kids (d+1) (m+1)=pCounts (kids.from (i+1)) (d+1) r):=qq (by rw[HP.out,HPA.out,hpc];rfl);have hr:=(pCounts_le _ (d+1) q r hq hpc).2;have HB5:=qq (below_then (bel_alloc HB.out _) hb5);clear hyes hno hpc c0 c1 c2 c3 hb5;go_wp2_with fail;go_roundw
               case rel=>exact⟨i+1,r,by omega,hr,by first | rfl | go_num,by go_num,HP2,HB5⟩
               case measure=>simp[intOf];omega
            · obtain rfl:n=i:=by omega
              have HFIN:Hid (PC=some q):=qq (by rw[HYES.out,HP.out,HN.out,PF.from_len];rfl);go_wp2_with fail;go_ret;exact⟨fun r h=>(by rw[HFIN.out] at h;injection h with h;subst h;exact⟨rfl,HB.out⟩),fun h=>(by rw[HFIN.out] at h;cases h)⟩
        · have HNO:Hid (PC=none):=qq (by rw[HC2.out,if_pos (by rw[HPO2.out];cases h3:nm.isEmpty<;>cases h4:opt<;>simp_all)]);have hcase:nm.isEmpty=false∨nm.isEmpty=true∧opt=true:=by
           cases h3:nm.isEmpty<;>cases h4:opt<;>simp_all
          clear hok;rcases hcase with h3 | ⟨h3,h4⟩
          · obtain⟨nc,nt,rfl⟩:∃x y,nm=x::y:=by cases nm with
             | nil=>simp at h3
             | cons x y=>exact⟨x,y,rfl⟩
            clear h3 hstr;rcases h23 with rfl | rfl
            all_goals
             obtain⟨l0,q0,f0⟩:=KB.out;go_wp2_with fail;refine(fail_yes _ _).mono ?_;rintro e w3 ⟨rfl,rfl⟩;go_wp2_with fail;refine(fail_no _ _).mono ?_;rintro e w3 ⟨rfl,rfl⟩;exact⟨rfl,fun r h=>(by rw[HNO.out] at h;cases h),fun _=>⟨rfl,HB0.out⟩⟩
          · subst h4;obtain rfl:nm=[]:=by simpa using h3
            clear h3 hstr;rcases h23 with rfl | rfl
            all_goals
             obtain⟨l0,q0,f0⟩:=KB.out;go_wp2_with fail;refine(fail_yes _ _).mono ?_;rintro e w3 ⟨rfl,rfl⟩;go_wp2_with fail;refine(fail_no _ _).mono ?_;rintro e w3 ⟨rfl,rfl⟩;exact⟨rfl,fun r h=>(by rw[HNO.out] at h;cases h),fun _=>⟨rfl,HB0.out⟩⟩
      · have HNO:Hid (PC=none):=qq (by rw[HC2.out,if_pos (by rw[HPO.out,if_neg h1];simp[h23])]);have h2b:(OP==2)=false:=by simpa using fun e=>h23 (.inl e)
        have h3b:(OP==3)=false:=by simpa using fun e=>h23 (.inr e)
        clear h23 h1;obtain⟨l0,q0,f0⟩:=KB.out;go_wp2_with fail;refine(fail_yes _ _).mono ?_;rintro e w3 ⟨rfl,rfl⟩;go_wp2_with fail;refine(fail_no _ _).mono ?_;rintro e w3 ⟨rfl,rfl⟩;exact⟨rfl,fun r h=>(by rw[HNO.out] at h;cases h),fun _=>⟨rfl,HB0.out⟩⟩
open Go.RowKit
theorem catch_idle_i (d x e : Addr) (w : World) (hd : w.cell? d = some (.bool true)) :
    CallsD Tryz.prog 58 #[.pointer (some d),.pointer (some x),.pointer (some e)] .returning w fun en u' w'=>en=.returned (.tuple #[])∧u'=.returning∧w'=w:=by
 refine callsD_of_wpS Tryz.func58 rfl fun c₀ cs hu=> ?_
 apply wpS_seq;apply wpS_region;simp[wpOpsS,go_sem,recoverD,hu,Tryz.ntmps58,Exit.thenS];apply wpS_seq;apply wpS_region;simp[wpOpsS,go_sem,hd,Exit.thenS];refine wpS_cond (t:=false) (by simp[Act.eval,Array.replicate]) ?_;simp only[Bool.false_eq_true,if_false];refine wpS_of_wp (wp_skip ?_)
 cases c₀
 simp_all [bodyPostS,results,Tryz.results58]
theorem catch_took_i (D X E : Nat) (v0 : Value) (n : Int) (hn : 1 ≤ n ∧ n ≤ 14) (ea : Int → Addr) (older : List PanicEntry) (w : World) (hd : Blk w D #[.bool false]) (hx : Blk w X #[v0]) (hz : Blk w E #[.nilIface]) (hne : X ≠ E) (he : Errs ea w) :
    CallsD Tryz.prog 58 #[.pointer (some ⟨D,0,none⟩),.pointer (some ⟨X,0,none⟩),.pointer (some ⟨E,0,none⟩)] (.panicking ({v:=errV (ea n),recovered:=false}::older)) w fun en u' w'=>
     en=.returned (.tuple #[])∧u'=.panicking ({v:=errV (ea n),recovered:=true}::older)∧∃w1,Below w.heap.size w w1∧w'=(w1.setCell ⟨X,0,none⟩ (.int .i64 0)).setCell ⟨E,0,none⟩ (errV (ea n)):=by
 have HT:=qq (fun W hW=>told_of n hn ea W hW);have HE:=qq he;have hd0:w.cell? ⟨D,0,none⟩=some (.bool false):=hd.cell 0;have HX:=qq hx;have HZ:=qq hz;have hne2:E≠X:=fun e=>hne e.symm
 clear he hd hx hz hn;refine callsD_of_wpS Tryz.func58 rfl fun c₀ cs hu=> ?_
 apply wpS_seq;apply wpS_region;simp[wpOpsS,go_sem,recoverD,hu,Tryz.ntmps58,Exit.thenS];apply wpS_seq;apply wpS_region;simp[wpOpsS,go_sem,hd0,Exit.thenS];refine wpS_cond (t:=true) (by simp[Act.eval,Array.replicate]) ?_;simp only[if_true];refine wpS_of_wp ?_
 go_wp2_with (go_at_call 52;refine(HT.out _ HE.out).mono ?_;rintro e w1 ⟨rfl,hb1⟩;have HX1:=HX.out.below hb1;have HZ1:=HZ.out.below hb1;have x0:w1.cell? ⟨X,0,none⟩=some v0:=HX1.cell 0;have x1:=HX1.free 0;have z0:w1.cell? ⟨E,0,none⟩=some .nilIface:=HZ1.cell 0;have z1:=HZ1.free 0;clear HX1 HZ1);simp[bodyPostS,results,Tryz.results58];exact⟨w1,hb1,rfl⟩
theorem try_gives_right (p : Addr) (k : Int) (w : World) (h : ∀ W, Below w.heap.size w W → Calls Tryz.prog 36 #[.pointer (some p)] W (Makes (.int .i64 k) W)) :
    Calls Tryz.prog 35 #[.func (.func 36) #[] #[.pointer (some p)]] w (Makes (.tuple #[.int .i64 k,.nilIface]) w):=by
 have hmf:∀(fn:Fn) (first cap:Array Value) (w:World),(Instr.makeFunc fn first cap).run Tryz.prog w=.ok (.func fn first cap) w:=fun _ _ _ _=>rfl
 have H:=qq h;clear h;go_enter_defers Tryz.func35,Tryz.ntmps35;go_wp2_with fail;refine(H.out _ (by go_grown)).mono ?_;rintro e w1 ⟨rfl,hb1⟩;have HX:=(((Blk.fresh w #[.int .i64 0] 3 _ rfl).below (by go_grown)).below hb1:Blk w1 w.heap.size _)
 have HE:=(((Blk.fresh (w.alloc (.cells #[.int .i64 0] 3)) #[.nilIface] 31 (w.heap.size+1) (by simp)).below (by go_grown)).below hb1:Blk w1 (w.heap.size+1) _)
 have HD:=((Blk.fresh ((w.alloc (.cells #[.int .i64 0] 3)).alloc (.cells #[.nilIface] 31)) #[.bool false] 4 (w.heap.size+1+1) (by simp)).below hb1:Blk w1 (w.heap.size+1+1) _)
 have x0:w1.cell? ⟨w.heap.size,0,none⟩=some (.int .i64 0):=HX.cell 0;have x1:=HX.free 0;have e0:w1.cell? ⟨w.heap.size+1,0,none⟩=some .nilIface:=HE.cell 0;have e1:=HE.free 0;have d0:w1.cell? ⟨w.heap.size+1+1,0,none⟩=some (.bool false):=HD.cell 0;have d1:=HD.free 0;clear HX HE HD;have HB:Below w.heap.size w w1:=below_then (by go_grown) hb1;go_wp2_with fail
 refine leaves_cons (f:=58) (args:= #[.pointer (some ⟨w.heap.size+1+1,0,none⟩),.pointer (some ⟨w.heap.size,0,none⟩),.pointer (some ⟨w.heap.size+1,0,none⟩)]) (by simp) (by simp[go_sem]) ?_;refine(catch_idle_i _ _ _ _ (by simp[go_sem,d0,x0,e0])).mono ?_;rintro e u' w'' ⟨rfl,rfl,rfl⟩;simp[Leaves,settle,results,Tryz.results35,go_sem,d0,x0,e0,d1,x1,e1]
 exact⟨rfl,(((HB.setCell (p:=⟨w.heap.size,0,none⟩) (Nat.le_refl _) _).setCell (p:=⟨w.heap.size+1+1,0,none⟩) (by dsimp only;omega) _).setCell (p:=⟨w.heap.size,0,none⟩) (Nat.le_refl _) _).setCell (p:=⟨w.heap.size+1,0,none⟩) (by dsimp only;omega) _⟩
theorem try_dies_right (p : Addr) (n : Int) (hn : 1 ≤ n ∧ n ≤ 14) (ea : Int → Addr) (w : World) (he : Errs ea w) (h : ∀ W, Below w.heap.size w W → Calls Tryz.prog 36 #[.pointer (some p)] W (Fails (errV (ea n)) W)) :
    Calls Tryz.prog 35 #[.func (.func 36) #[] #[.pointer (some p)]] w (Makes (.tuple #[.int .i64 0,errV (ea n)]) w):=by
 have hmf:∀(fn:Fn) (first cap:Array Value) (w:World),(Instr.makeFunc fn first cap).run Tryz.prog w=.ok (.func fn first cap) w:=fun _ _ _ _=>rfl
 have H:=qq h;have HR:=qq he;clear h he;go_enter_defers Tryz.func35,Tryz.ntmps35;go_wp2_with fail;refine(H.out _ (by go_grown)).mono ?_;rintro e w1 ⟨rfl,hb1⟩;have HB:Below w.heap.size w w1:=below_then (by go_grown) hb1;have HX:=(((Blk.fresh w #[.int .i64 0] 3 _ rfl).below (by go_grown)).below hb1:Blk w1 w.heap.size _)
 have HE:=(((Blk.fresh (w.alloc (.cells #[.int .i64 0] 3)) #[.nilIface] 31 (w.heap.size+1) (by simp)).below (by go_grown)).below hb1:Blk w1 (w.heap.size+1) _)
 have HD:=((Blk.fresh ((w.alloc (.cells #[.int .i64 0] 3)).alloc (.cells #[.nilIface] 31)) #[.bool false] 4 (w.heap.size+1+1) (by simp)).below hb1:Blk w1 (w.heap.size+1+1) _)
 have HER:=HR.out.below HB;refine leaves_cons (f:=58) (args:= #[.pointer (some ⟨w.heap.size+1+1,0,none⟩),.pointer (some ⟨w.heap.size,0,none⟩),.pointer (some ⟨w.heap.size+1,0,none⟩)]) (by simp) (by simp[go_sem]) ?_;refine(catch_took_i _ _ _ _ n hn ea _ _ HD HX HE (by omega) HER).mono ?_;rintro e u' w'' ⟨rfl,rfl,w2,hb2,rfl⟩;have x0:w1.cell? ⟨w.heap.size,0,none⟩=some (.int .i64 0):=HX.cell 0
 have hx2:=HX.below hb2;have he2:=HE.below hb2;have x2:w2.cell? ⟨w.heap.size,0,none⟩=some (.int .i64 0):=hx2.cell 0;have e2:w2.cell? ⟨w.heap.size+1,0,none⟩=some .nilIface:=he2.cell 0;have x3:=hx2.free 0;have e3:=he2.free 0;simp[Leaves,settle,results,Tryz.results35,go_sem,x2,e2,x3,e3]
 exact⟨rfl,((HB.trans (hb2.mono HB.size)).setCell (p:=⟨w.heap.size,0,none⟩) (Nat.le_refl _) _).setCell (p:=⟨w.heap.size+1,0,none⟩) (by dsimp only;omega) _⟩
def exA (e:PE) (a:Option Addr) (c:Nat):Array Value:= #[.int .i64 e.op,.string ⟨e.nm.toArray⟩,.bool e.opt,.slice a e.kids.len c]
structure ExIn (B E:Nat) (e:PE) (a:Option Addr) (ea:Int→Addr) (w:World):Prop where
 nm:e.nm.length≤100000
 len:e.kids.len≤100000
 small:e.kids.small
 kids:KC B E w e.kids a
 hE:E≤w.heap.size
 errs:Errs ea w
theorem ExIn.below {B E:Nat} {e:PE} {a:Option Addr} {ea:Int→Addr} {w w':World} (h:ExIn B E e a ea w) (hb:Below w.heap.size w w'):ExIn B E e a ea w':=
 ⟨h.nm,h.len,h.small,h.kids.below h.hE hb,Nat.le_trans h.hE hb.size,h.errs.below hb⟩
theorem right1_of (e : PE) (a : Option Addr) (c B E : Nat) (ea : Int → Addr) (p : Nat) (w : World) (h : ExIn B E e a ea w) (hp : Blk w p (exA e a c)) :
    Calls Tryz.prog 36 #[.pointer (some ⟨p,0,none⟩)] w (Tries ea (if pRight e then 0 else 4) (.int .i64 (((pCount e 1 0).getD 0:Nat):Int)) w):=by
 have hc:=count_go (e.kids.sz+1) e 1 0 a c B E ea w (by omega) h.nm h.len h.small h.kids h.hE h.errs (by omega) (by omega);have c0:w.cell? ⟨p,0,none⟩=some (.int .i64 e.op):=hp.cell 0;have c1:w.cell? ⟨p,1,none⟩=some (.string ⟨e.nm.toArray⟩):=hp.cell 1;have c2:w.cell? ⟨p,2,none⟩=some (.bool e.opt):=hp.cell 2;have c3:w.cell? ⟨p,3,none⟩=some (.slice a e.kids.len c):=hp.cell 3;have hlt:=hp.lt
 unfold pRight;obtain⟨op,nm,opt,kids⟩:=e;dsimp only at c0 c1 c2 c3;generalize pCount ⟨op,nm,opt,kids⟩ 1 0=r at*;clear h hp;have HC:=qq hc;clear hc
 cases r with
 | none=>
  refine tries_fails (by simp) ?_;go_enter Tryz.func36,Tryz.ntmps36;go_wp2_with fail;refine HC.out.mono ?_;rintro e w1 ⟨_,hno⟩;obtain⟨rfl,hb1⟩:=hno rfl;exact⟨rfl,rfl,hb1⟩
 | some m=>
  refine tries_makes (by simp) ?_;go_enter Tryz.func36,Tryz.ntmps36;go_wp2_with fail;refine HC.out.mono ?_;rintro e w1 ⟨hyes,_⟩;obtain⟨rfl,hb1⟩:=hyes m rfl;go_wp2_with fail;go_ret;exact⟨rfl,hb1⟩
theorem right_of (e : PE) (a : Option Addr) (c B E : Nat) (ea : Int → Addr) (w : World) (h : ExIn B E e a ea w) :
    Calls Tryz.prog 16 #[.agg (exA e a c)] w (Makes (.bool (pRight e)) w):=by
 have hmf:∀(fn:Fn) (first cap:Array Value) (w:World),(Instr.makeFunc fn first cap).run Tryz.prog w=.ok (.func fn first cap) w:=fun _ _ _ _=>rfl
 have hB:Below w.heap.size w (w.alloc (.cells (exA e a c) 27)):=(Below.refl _ _).alloc (Nat.le_refl _) _;have hc:=fun W (hW:Below (w.alloc (.cells (exA e a c) 27)).heap.size (w.alloc (.cells (exA e a c) 27)) W)=>right1_of e a c B E ea w.heap.size W ((h.below hB).below hW) ((Blk.fresh w (exA e a c) 27 _ rfl).below hW)
 have hE:=h.errs.below hB;unfold exA at*;obtain⟨n,hn⟩:∃n:Int,n=if pRight e then 0 else 4:=⟨_,rfl⟩
 rw[←hn] at hc;generalize(((pCount e 1 0).getD 0:Nat):Int)=x at hc;by_cases h0:pRight e=true
 · rw[if_pos h0] at hn;have HT:=qq (try_gives_right ⟨w.heap.size,0,none⟩ _ _ (fun W hW=>tries_makes' hn (hc W hW)));rw[h0];obtain⟨op,nm,opt,kids⟩:=e;clear h hc hE hn h0;go_enter Tryz.func16,Tryz.ntmps16;go_wp2_with fail;refine HT.out.mono ?_;rintro e w1 ⟨rfl,hb1⟩;go_wp2_with fail;go_ret;exact⟨rfl,below_then hB hb1⟩
 · rw[if_neg h0] at hn;have HT:=qq (try_dies_right ⟨w.heap.size,0,none⟩ n (by omega) ea _ hE (fun W hW=>tries_fails' (by omega) (hc W hW)));rw[show pRight e=false by simpa using h0];obtain⟨op,nm,opt,kids⟩:=e;clear h hc hE hn h0;go_enter Tryz.func16,Tryz.ntmps16;go_wp2_with fail;refine HT.out.mono ?_;rintro e w1 ⟨rfl,hb1⟩;go_wp2_with fail;go_ret;exact⟨rfl,below_then hB hb1⟩
end Go.Proofs.YtbepkpjcjpmpmaaGreatDoor
