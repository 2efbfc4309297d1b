/- PolW -/
import Derived.Test.YtbepkpjcjpmpmaaGreatDoorAPolVToPcC
set_option linter.unusedSimpArgs false
set_option linter.unusedVariables false
set_option maxRecDepth 100000
set_option maxHeartbeats 16000000
namespace Go.Proofs.YtbepkpjcjpmpmaaGreatDoor
open Go.RowKit Go.Shelf
theorem expr1_of (bx rb : Nat) (x : Value) (d : Nat) (u : FrameMode) (w : World) (hx : Blk w bx #[.pointer (some ⟨rb, 0, none⟩)]) (hr : Blk w rb #[x, .int .i64 ((d : Int) + 1)]) (hd : d ≤ 100) :
    CallsD Tryz.prog 61 #[.pointer (some ⟨bx,0,none⟩)] u w fun e u' w'=>u'=u∧(e=.returned (.tuple #[])∧w'=w.setCell ⟨rb,1,none⟩ (.int .i64 (d:Int))):=by
 obtain⟨lx,qx,fx⟩:=hx;obtain⟨lr,qr,fr⟩:=hr;have c0:w.cell? ⟨bx,0,none⟩=some (.pointer (some ⟨rb,0,none⟩)):=qx 0;have c1:w.cell? ⟨rb,1,none⟩=some (.int .i64 ((d:Int)+1)):=qr 1;have z1:w.frozen? ⟨rb,1,none⟩=false:=fr 1;have hwd:IntKind.i64.wrap (d:Int)=(d:Int):=IntWalk.i64_in _ (by omega);clear qx fx qr fr;go_enter_d Tryz.func61,Tryz.ntmps61;go_wp2_with fail
 exact bodyPost_end (results_none rfl _ _ _) rfl ⟨rfl,rfl⟩
theorem rdGo_deep (g d:Nat) (s:PStr) (h:12<d+1):rdGo (g+1) d s none=none:=by rw[rdGo,if_pos h]
theorem rdGo_all (g d:Nat) (s t:PStr) (h:¬12<d+1) (h1:rHas 40 s=some t):rdGo (g+1) d s none=(kidsQ g (d+1) 38 41 t).map (fun(r:PF×PStr)=>(PF.cons 2 [] false r.1 .nil,r.2)):=by
 rw[rdGo,if_neg h,h1];dsimp only;unfold kidsQ
 cases rHas 41 t<;>rfl
theorem rdGo_one (g d:Nat) (s t:PStr) (h:¬12<d+1) (h1:rHas 40 s=none) (h2:rHas 91 s=some t):rdGo (g+1) d s none=(kidsQ g (d+1) 124 93 t).map (fun(r:PF×PStr)=>(PF.cons 3 [] false r.1 .nil,r.2)):=by
 rw[rdGo,if_neg h,h1,h2];dsimp only;unfold kidsQ
 cases rHas 93 t<;>rfl
theorem rdGo_leaf (g d:Nat) (s:PStr) (h:¬12<d+1) (h1:rHas 40 s=none) (h2:rHas 91 s=none):rdGo (g+1) d s none=some (.cons 1 (s.takeWhile isLet) (rHas 63 (s.dropWhile isLet)).isSome .nil .nil,(rHas 63 (s.dropWhile isLet)).getD (s.dropWhile isLet)):=by
 rw[rdGo,if_neg h,h1,h2];dsimp only
 cases rHas 63 (s.dropWhile isLet)<;>rfl
theorem rd_set1 {w:World} {rb:Nat} {s:PStr} {x:Value} {d:Nat} (h:Blk w rb #[.string ⟨s.toArray⟩,x]):RdB (w.setCell ⟨rb,1,none⟩ (.int .i64 (d:Int))) rb s d:=by
 have:=h.set' 1 (by simp) (.int .i64 (d:Int));simpa using this
theorem ex_take (s:PStr) (k:Nat):(⟨s.toArray⟩:ByteArray).extract 0 k=⟨(s.take k).toArray⟩:=by
 apply ByteArray.ext;rw[ByteArray.data_extract];simp
theorem ex_drop (s:PStr) (k:Nat):(⟨s.toArray⟩:ByteArray).extract k s.length=⟨(s.drop k).toArray⟩:=by
 apply ByteArray.ext;rw[ByteArray.data_extract];simp;rw[List.take_of_length_le (by simp)]
theorem take_drop_no:∀{s:PStr} (k:Nat) (c:UInt8),(∀(j:Nat) (c:UInt8),j<k→s[j]? =some c→isLet c=true)→s[k]? =some c→isLet c=false→s.takeWhile isLet=s.take k∧s.dropWhile isLet=s.drop k
 | [],k,c,_,h,_=>by simp at h
 | x::t,0,c,_,h,hc=>by
  have:x=c:=by simpa using h
  subst this;simp[hc]
 | x::t,k+1,c,ha,h,hc=>by
  have hx:=ha 0 x (by omega) rfl;have:=take_drop_no (s:=t) k c (fun j d hj hd=>ha (j+1) d (by omega) (by simpa using hd)) (by simpa using h) hc;simp[hx,this.1,this.2]
theorem take_drop_all:∀{s:PStr},(∀(j:Nat) (c:UInt8),j<s.length→s[j]? =some c→isLet c=true)→s.takeWhile isLet=s.take s.length∧s.dropWhile isLet=s.drop s.length
 | [],_=>⟨rfl,rfl⟩
 | x::t,ha=>by
  have hx:=ha 0 x (by simp) rfl;have:=take_drop_all (s:=t) (fun j d hj hd=>ha (j+1) d (by simpa using hj) (by simpa using hd));simp[hx] at this⊢;exact this
structure InEx (w W:World) (rb:Nat) (s:PStr) (d:Nat):Prop where
 rd:Blk W rb #[.string ⟨s.toArray⟩,.int .i64 ((d:Int)+1)]
 bx:Blk W w.heap.size #[.pointer (some ⟨rb,0,none⟩)]
 res:W.heap[w.heap.size+1]? =some (.cells #[.int .i64 0,.string ⟨#[]⟩,.bool false,.slice none 0 0] 27 (0,0))
 gr:w.grownBy W (some rb)
theorem InEx.drew {w W:World} {rb:Nat} {s:PStr} {d:Nat} (h:InEx w W rb s d):InEx w W.drew rb s d:=⟨h.rd.drew,h.bx.drew,h.res,gr_drew h.gr⟩
theorem InEx.set {w W:World} {rb:Nat} {s t:PStr} {d:Nat} (h:InEx w W rb s d) (hr:rb<w.heap.size):InEx w (W.setCell ⟨rb,0,none⟩ (.string ⟨t.toArray⟩)) rb t d:=by
 refine⟨?_,Blk.same h.bx (by simp) (Below.heap_setCell _ _ _ _ (by dsimp only;omega)),hp_st h.res (by dsimp only;omega) _,gr_setb h.gr 0 _⟩;have:=h.rd.set' 0 (by simp) (.string ⟨t.toArray⟩);simpa using this
theorem InEx.al {w W:World} {rb:Nat} {s:PStr} {d:Nat} (h:InEx w W rb s d) (x:Obj):InEx w (W.alloc x) rb s d:=⟨h.rd.below ((Below.refl _ _).alloc (Nat.le_refl _) _),h.bx.below ((Below.refl _ _).alloc (Nat.le_refl _) _),hp_al h.res _,gr_tr h.gr (gr_of_below _ ((Below.refl _ _).alloc (Nat.le_refl _) _))⟩
theorem inEx_start (w:World) (rb:Nat) (s:PStr) (d:Nat) (h:RdB w rb s d):InEx w (((w.setCell ⟨rb,1,none⟩ (.int .i64 ((d:Int)+1))).alloc (.cells #[.pointer (some ⟨rb,0,none⟩)] 83)).alloc (.cells #[.int .i64 0,.string ⟨#[]⟩,.bool false,.slice none 0 0] 27)) rb s d:=by
 obtain⟨w1,hw1⟩:∃w1,w1=w.setCell ⟨rb,1,none⟩ (.int .i64 ((d:Int)+1)):=⟨_,rfl⟩
 have hsz:w1.heap.size=w.heap.size:=by rw[hw1];simp
 have h1:Blk w1 rb #[.string ⟨s.toArray⟩,.int .i64 ((d:Int)+1)]:=by
  rw[hw1];have:=h.set' 1 (by simp) (.int .i64 ((d:Int)+1));simpa using this
 have hg:w.grownBy w1 (some rb):=by rw[hw1];exact gr_setb (gr_refl _ _) 1 _
 rw[←hw1];have hb1:Below w1.heap.size w1 ((w1.alloc (.cells #[.pointer (some ⟨rb,0,none⟩)] 83)).alloc (.cells #[.int .i64 0,.string ⟨#[]⟩,.bool false,.slice none 0 0] 27)):=bel_alloc (bel_alloc (Below.refl _ _) _) _;refine⟨h1.below hb1,?_,?_,gr_tr hg (gr_of_below _ hb1)⟩
 · exact(Blk.fresh w1 #[.pointer (some ⟨rb,0,none⟩)] 83 _ hsz.symm).below ((Below.refl _ _).alloc (Nat.le_refl _) _)
 · exact hp_new _ (by simp[hsz])
theorem expr_step (g:Nat) (ih:∀g',g'≤g→ExprAt g'):ExprAt (g+1):=by
 intro s d rb ea w0 w hg hs hd hb hE hr hB;have HKI:=qq ih;have HBW:=qq hB;have HRB:=qq hb;have HEE:=qq hE;have HR:=qq hr;have HGE:Hid (∀W,Below w0.heap.size w0 W→W.cell? ⟨0,0,none⟩=some (errV (ea 4))):=qq (fun W hW=>(hE.below hW).e4)
 have HYES:Hid (∀o n b k t a c w',rdGo (g+1) d s none=some (.cons o n b k .nil,t)→KC w.heap.size w'.heap.size w' k a→RdB w' rb t d→w.grownBy w' (some rb)→ExprEnds (rdGo (g+1) d s none) rb d ea w (.returned (.agg #[o,.string ⟨n.toArray⟩,.bool b,.slice a k.len c])) w'):=qq (fun o n b k t a c w' h1 h2 h3 h4=>⟨fun o2 n2 b2 k2 t2 h5=>(by rw[h1] at h5;injection h5 with h5;injection h5 with h5 h6;injection h5 with e1 e2 e3 e4;subst e1 e2 e3 e4 h6;exact⟨a,c,rfl,h2,h3,h4⟩),fun h5=>(by rw[h1] at h5;cases h5)⟩)
 have HNO:Hid (∀w',rdGo (g+1) d s none=none→(∃s',RdB w' rb s' d)→w.grownBy w' (some rb)→ExprEnds (rdGo (g+1) d s none) rb d ea w (.panicked [{v:=errV (ea 4),recovered:=false}]) w'):=qq (fun w' h1 h3 h4=>⟨fun o2 n2 b2 k2 t2 h5=>(by rw[h1] at h5;cases h5),fun _=>⟨rfl,h3,h4⟩⟩);have HQ0:=qq (fun h=>rdGo_deep g d s h);have HQ1:=qq (fun t h h1=>rdGo_all g d s t h h1)
 have HQ2:=qq (fun t h h1 h2=>rdGo_one g d s t h h1 h2);have HQ3:=qq (fun h h1 h2=>rdGo_leaf g d s h h1 h2);generalize ExprEnds (rdGo (g+1) d s none) rb d ea w=R at HYES HNO⊢;generalize rdGo (g+1) d s none=Q at*;have hrw:rb<w.heap.size:=hb.lt;have c0:w.cell? ⟨rb,0,none⟩=some (.string ⟨s.toArray⟩):=hb.cell 0;have c1:w.cell? ⟨rb,1,none⟩=some (.int .i64 (d:Int)):=hb.cell 1;have z1:=hb.free 1
 have z0:=hb.free 0;have HIN:=qq (inEx_start w rb s d hb);have HIB:=qq (gr_below hB HIN.out.gr hr);have hmf:∀(fn:Fn) (first cap:Array Value) (w:World),(Instr.makeFunc fn first cap).run Tryz.prog w=.ok (.func fn first cap) w:=fun _ _ _ _=>rfl
 clear ih hB hb hE hr;go_enter_defers Tryz.func40,Tryz.ntmps40;go_wp2_with fail;clear c0 c1 z1 z0;by_cases h12:d+1≤12
 · have h12b:decide ((d:Int)+1≤12)=true:=by rw[decide_eq_true_eq];omega
   refine wp_mono (Q:=fun e a w=>e=.normal∧_) ?_ (fun e a w h=>h.2);refine reg_startZ (fun w'=>InEx w w' rb s d∧Below w0.heap.size w0 w') (fun _=>True) (by kernel_rfl) ⟨HIN.out.drew,bel_drew HIB.out⟩ True.intro (fun _=>false) ?_;rintro w6 hHeld _
   refine takeX (d:=some 18) 0 rfl rfl hHeld (fun w' hS'=>by have qX:w'.cell? ⟨w.heap.size,0,none⟩=some (.pointer (some ⟨rb,0,none⟩)):=hS'.1.bx.cell 0;clear hS';go_simp;(try rfl)) ?_ (hQ:=noPanic);simp only[puts];refine takeX (d:=some 19) 1 rfl rfl hHeld (fun w' hS'=>by clear hS';go_simp;(try rfl)) ?_ (hQ:=noPanic);simp only[puts]
   refine takeX (d:=some 20) 2 rfl rfl hHeld (fun w' hS'=>by clear hS';go_simp;(try rfl)) ?_ (hQ:=noPanic);simp only[puts];refine takeX (d:=some 21) 3 rfl rfl hHeld (fun w' hS'=>by have qR:w'.cell? ⟨rb,1,none⟩=some (.int .i64 ((d:Int)+1)):=hS'.1.rd.cell 1;clear hS';go_simp;(try rfl)) ?_ (hQ:=noPanic);simp only[puts]
   refine takeX (d:=some 22) 4 rfl rfl hHeld (fun w' hS'=>by have h9:=h12b;clear hS';go_simp;(try rfl)) ?_ (hQ:=noPanic);simp only[puts];refine takeX (d:=some 23) 5 rfl rfl hHeld (fun w' hS'=>by have qG:=HGE.out _ hS'.2;clear hS';go_simp;(try rfl)) ?_ (hQ:=noPanic);simp only[puts]
   refine call_Z (d:=some 24) 6 41 _ _ [.bool true,errV (ea 4)] rfl rfl rfl (enters_of Tryz.func41 (by kernel_rfl) rfl) (by rfl) (by rfl) ?_;refine(fail_yes _ _).mono ?_;rintro e w8 ⟨rfl,rfl⟩;refine⟨_,rfl,.inr hHeld,?_⟩;simp only[puts];refine doneX (by kernel_rfl) ?_ _;refine⟨rfl,?_⟩;have HB6:=qq hHeld.2;have HI7:=qq (hHeld.1.al (.cells #[.int .i64 2,.int .i64 3] 3))
   have HB7:=qq (show Below w0.heap.size w0 (w6.alloc (.cells #[.int .i64 2,.int .i64 3] 3)) from hHeld.2.alloc hHeld.2.size _);have HL7:=qq (Blk.fresh w6 #[.int .i64 2,.int .i64 3] 3 _ rfl);have hz6:w.heap.size+1<w6.heap.size:=(Array.getElem?_eq_some_iff.1 hHeld.1.res).1;clear hHeld;go_wp2_with fail;obtain⟨lb,hlb⟩:∃q,q=w6.heap.size:=⟨_,rfl⟩
   rw[←hlb] at HL7 hz6⊢;clear hlb;go_loopw [27] (fun cc wr=>∃i:Nat,i≤2∧cc=.int .i64 (i:Int)∧Hid (InEx w wr rb s d)∧Hid (Below w0.heap.size w0 wr)∧Hid (Blk wr lb #[.int .i64 2,.int .i64 3])∧Hid (1≤i→rHas 40 s=none)∧Hid (2≤i→rHas 91 s=none)) (fun cc _=>2 - (intOf cc).toNat)
   case atStart=>exact⟨0,by omega,by first | rfl | go_num,HI7,HB7,HL7,qq (fun h=>by omega),qq (fun h=>by omega)⟩
   case round=>
    obtain⟨i,hi,rfl,HI,HB,HL,HN1,HN2⟩:=hrel;obtain⟨ll,ql,fl⟩:=HL.out;have b0:wr.cell? ⟨w.heap.size,0,none⟩=some (.pointer (some ⟨rb,0,none⟩)):=HI.out.bx.cell 0;have lb0:=HI.out.bx.lt;have HHA:=qq (fun c=>has_of s c rb (.int .i64 ((d:Int)+1)) wr HI.out.rd);rcases(by omega:i=0∨i=1∨i=2) with rfl | rfl | rfl
    · have k0:wr.cell? ⟨lb,0,none⟩=some (.int .i64 2):=ql 0;clear ql fl;have SG:=qq (signs_of 2 wr);rw[if_pos rfl] at SG;go_wp2_with fail;refine SG.out.mono ?_;rintro e w2 ⟨rfl,rfl⟩;go_wp2_with fail;refine(HHA.out 40).mono ?_;rintro e w3 ⟨rfl,hw3⟩
      cases hh:rHas 40 s with
      | none=>
       rw[hh] at hw3;have hw3':w3=wr:=hw3;subst hw3';have HH0:=qq hh;clear hw3 hh;go_wp2_with fail;go_roundw
       case rel=>exact⟨1,by omega,by first | rfl | go_num,HI,HB,HL,qq (fun _=>HH0.out),qq (fun h=>by omega)⟩
       case measure=>simp[intOf]
      | some t=>
       rw[hh] at hw3;have hw3':w3=wr.setCell ⟨rb,0,none⟩ (.string ⟨t.toArray⟩):=hw3;have hqk:=HQ1.out t (by omega) hh;have htl:=rHas_len hh;have HI3:Hid (InEx w w3 rb t d):=qq (by rw[hw3'];exact HI.out.set hrw);have HB3:Hid (Below w0.heap.size w0 w3):=qq (by rw[hw3'];exact bel_set (p:=⟨rb,0,none⟩) HB.out HR.out _)
       have HKD:=qq (kids_of g HKI.out 38 41 t (d+1) rb ea w0 w3 (by omega) (by omega) h12 (by have:=HI3.out.rd;exact this) HEE.out HR.out HB3.out);have hw3s:=HI3.out.gr.size;have HWW:Hid (wr.heap.size=w3.heap.size):=qq (by rw[hw3'];simp);have b3:w3.cell? ⟨w.heap.size,0,none⟩=some (.pointer (some ⟨rb,0,none⟩)):=HI3.out.bx.cell 0;have lb3:=HI3.out.bx.lt;clear hw3 hw3' hh b0 lb0 k0;go_wp2_with fail
       refine HKD.out.mono ?_;rintro e w4 ⟨hyes,hno⟩
       cases hk:kidsQ g (d+1) 38 41 t with
       | none=>
        obtain⟨rfl,⟨s4,hs4⟩,hg4⟩:=hno hk;have hqn:Q=none:=by rw[hqk,hk];rfl
        have hbx:Blk w4 w.heap.size #[.pointer (some ⟨rb,0,none⟩)]:=HI3.out.bx.gr hg4 (by omega);have HFIN:=qq (HNO.out (w4.setCell ⟨rb,1,none⟩ (.int .i64 (d:Int))) hqn ⟨s4,rd_set1 hs4⟩ (gr_setb (gr_tr HI3.out.gr hg4) 1 _));clear hyes hno;refine leaves_cons (f:=61) (args:= #[.pointer (some ⟨w.heap.size,0,none⟩)]) (by simp) (by simp[go_sem]) ?_
        refine(expr1_of w.heap.size rb _ d _ w4 hbx hs4 (by omega)).mono ?_;rintro e u' w'' ⟨rfl,rfl,rfl⟩;exact HFIN.out
       | some p=>
        obtain⟨f,u⟩:=p;obtain⟨a4,c4,rfl,hkc4,hrd4,hg4⟩:=hyes f u hk;have hqn:Q=some (.cons 2 [] false f .nil,u):=by rw[hqk,hk];rfl
        have hbx:Blk w4 w.heap.size #[.pointer (some ⟨rb,0,none⟩)]:=HI3.out.bx.gr hg4 (by omega);have hT:=hp_gr HI3.out.res hg4 (by omega);have hw34:=hg4.size;have hw3z:w.heap.size+1<w3.heap.size:=(Array.getElem?_eq_some_iff.1 HI3.out.res).1;have HKC:=qq hkc4;have HRD:=qq hrd4;have HG4:=qq (gr_tr HI3.out.gr hg4);have HBX:=qq hbx;have HYQ:=qq (fun a c w'=>HYES.out 2 [] false f u a c w' hqn)
        obtain⟨n4,hn4⟩:∃q,q=f.len:=⟨_,rfl⟩
        rw[←hn4];have HN4:=qq hn4;clear hyes hno hk hqk hqn hkc4 hrd4 hg4 hbx hn4;go_wp2_with (refine row_go 27 (.tmp 2) (.tmp 45) rfl rfl (w.heap.size+1) #[.int .i64 2,.string ⟨#[]⟩,.bool false,.slice a4 n4 c4] #[.int .i64 0,.string ⟨#[]⟩,.bool false,.slice none 0 0] 27 hT rfl rfl (by kernel_rfl) rfl (by simp[Value.oneCell']) ?_);intro w5 hb5 hg5;have hw45:=hg5.size
        have hbx5:Blk w5 w.heap.size #[.pointer (some ⟨rb,0,none⟩)]:=HBX.out.gr hg5 (by omega);have hrd5:Blk w5 rb #[.string ⟨u.toArray⟩,.int .i64 ((d:Int)+1)]:=Blk.gr HRD.out hg5 (by omega)
        have hgr5:w.grownBy w5 (some rb):=⟨hg5.os.trans HG4.out.os,hg5.tape.trans HG4.out.tape,hg5.output.trans HG4.out.output,by omega,fun q hq hne=>(hg5.block q (by omega) (fun he=>by injection he with he;omega)).trans (HG4.out.block q hq hne)⟩
        have hz6:(w5.setCell ⟨rb,1,none⟩ (.int .i64 (d:Int))).heap.size=w5.heap.size:=by simp
        have HFIN:=qq (HYQ.out a4 c4 (w5.setCell ⟨rb,1,none⟩ (.int .i64 (d:Int))) (HKC.out.keep (by omega) (by rw[hz6];exact hw45) (fun q hq1 hq2=>(Below.heap_setCell _ _ _ _ (by dsimp only;omega)).trans (hg5.block q hq2 (fun he=>by injection he with he;omega)))) (rd_set1 hrd5) (gr_setb hgr5 1 _));rw[←HN4.out] at HFIN
        have HB5:Hid (Blk (w5.setCell ⟨rb,1,none⟩ (.int .i64 (d:Int))) (w.heap.size+1) #[.int .i64 2,.string ⟨#[]⟩,.bool false,.slice a4 n4 c4]):=qq (Blk.same hb5 (by simp) (Below.heap_setCell _ _ _ _ (by dsimp only;omega)));have HBX5:=qq hbx5;have HRD5:=qq hrd5;clear hT hb5 hg5 hbx5 hrd5 hgr5 hz6;go_wp2_with fail
        refine leaves_cons (f:=61) (args:= #[.pointer (some ⟨w.heap.size,0,none⟩)]) (by simp) (by simp[go_sem]) ?_;refine(expr1_of w.heap.size rb _ d _ w5 HBX5.out HRD5.out (by omega)).mono ?_;rintro e u' w'' ⟨rfl,rfl,rfl⟩;obtain⟨w6,hw6⟩:∃q,q=w5.setCell ⟨rb,1,none⟩ (.int .i64 (d:Int)):=⟨_,rfl⟩
        rw[←hw6] at HB5 HFIN⊢;have x0:w6.cell? ⟨w.heap.size+1,0,none⟩=some (.int .i64 2):=HB5.out.cell 0;have x1:w6.cell? ⟨w.heap.size+1,1,none⟩=some (.string ⟨#[]⟩):=HB5.out.cell 1;have x2:w6.cell? ⟨w.heap.size+1,2,none⟩=some (.bool false):=HB5.out.cell 2;have x3:w6.cell? ⟨w.heap.size+1,3,none⟩=some (.slice a4 n4 c4):=HB5.out.cell 3;clear hw6
        simp[Leaves,settle,results,Tryz.results40,go_sem,x0,x1,x2,x3];exact HFIN.out
    · have k0:wr.cell? ⟨lb,1,none⟩=some (.int .i64 3):=ql 1;clear ql fl;have SG:=qq (signs_of 3 wr);rw[if_neg (by decide)] at SG;go_wp2_with fail;refine SG.out.mono ?_;rintro e w2 ⟨rfl,rfl⟩;go_wp2_with fail;refine(HHA.out 91).mono ?_;rintro e w3 ⟨rfl,hw3⟩
      cases hh:rHas 91 s with
      | none=>
       rw[hh] at hw3;have hw3':w3=wr:=hw3;subst hw3';have HH0:=qq hh;clear hw3 hh;go_wp2_with fail;go_roundw
       case rel=>exact⟨2,by omega,by first | rfl | go_num,HI,HB,HL,qq (fun _=>HN1.out (by omega)),qq (fun _=>HH0.out)⟩
       case measure=>simp[intOf]
      | some t=>
       rw[hh] at hw3;have hw3':w3=wr.setCell ⟨rb,0,none⟩ (.string ⟨t.toArray⟩):=hw3;have hqk:=HQ2.out t (by omega) (HN1.out (by omega)) hh;have htl:=rHas_len hh;have HI3:Hid (InEx w w3 rb t d):=qq (by rw[hw3'];exact HI.out.set hrw);have HB3:Hid (Below w0.heap.size w0 w3):=qq (by rw[hw3'];exact bel_set (p:=⟨rb,0,none⟩) HB.out HR.out _)
       have HKD:=qq (kids_of g HKI.out 124 93 t (d+1) rb ea w0 w3 (by omega) (by omega) h12 (by have:=HI3.out.rd;exact this) HEE.out HR.out HB3.out);have hw3s:=HI3.out.gr.size;have HWW:Hid (wr.heap.size=w3.heap.size):=qq (by rw[hw3'];simp);have b3:w3.cell? ⟨w.heap.size,0,none⟩=some (.pointer (some ⟨rb,0,none⟩)):=HI3.out.bx.cell 0;have lb3:=HI3.out.bx.lt;clear hw3 hw3' hh b0 lb0 k0;go_wp2_with fail
       refine HKD.out.mono ?_;rintro e w4 ⟨hyes,hno⟩
       cases hk:kidsQ g (d+1) 124 93 t with
       | none=>
        obtain⟨rfl,⟨s4,hs4⟩,hg4⟩:=hno hk;have hqn:Q=none:=by rw[hqk,hk];rfl
        have hbx:Blk w4 w.heap.size #[.pointer (some ⟨rb,0,none⟩)]:=HI3.out.bx.gr hg4 (by omega);have HFIN:=qq (HNO.out (w4.setCell ⟨rb,1,none⟩ (.int .i64 (d:Int))) hqn ⟨s4,rd_set1 hs4⟩ (gr_setb (gr_tr HI3.out.gr hg4) 1 _));clear hyes hno;refine leaves_cons (f:=61) (args:= #[.pointer (some ⟨w.heap.size,0,none⟩)]) (by simp) (by simp[go_sem]) ?_
        refine(expr1_of w.heap.size rb _ d _ w4 hbx hs4 (by omega)).mono ?_;rintro e u' w'' ⟨rfl,rfl,rfl⟩;exact HFIN.out
       | some p=>
        obtain⟨f,u⟩:=p;obtain⟨a4,c4,rfl,hkc4,hrd4,hg4⟩:=hyes f u hk;have hqn:Q=some (.cons 3 [] false f .nil,u):=by rw[hqk,hk];rfl
        have hbx:Blk w4 w.heap.size #[.pointer (some ⟨rb,0,none⟩)]:=HI3.out.bx.gr hg4 (by omega);have hT:=hp_gr HI3.out.res hg4 (by omega);have hw34:=hg4.size;have hw3z:w.heap.size+1<w3.heap.size:=(Array.getElem?_eq_some_iff.1 HI3.out.res).1;have HKC:=qq hkc4;have HRD:=qq hrd4;have HG4:=qq (gr_tr HI3.out.gr hg4);have HBX:=qq hbx;have HYQ:=qq (fun a c w'=>HYES.out 3 [] false f u a c w' hqn)
        obtain⟨n4,hn4⟩:∃q,q=f.len:=⟨_,rfl⟩
        rw[←hn4];have HN4:=qq hn4;clear hyes hno hk hqk hqn hkc4 hrd4 hg4 hbx hn4;go_wp2_with (refine row_go 27 (.tmp 2) (.tmp 45) rfl rfl (w.heap.size+1) #[.int .i64 3,.string ⟨#[]⟩,.bool false,.slice a4 n4 c4] #[.int .i64 0,.string ⟨#[]⟩,.bool false,.slice none 0 0] 27 hT rfl rfl (by kernel_rfl) rfl (by simp[Value.oneCell']) ?_);intro w5 hb5 hg5;have hw45:=hg5.size
        have hbx5:Blk w5 w.heap.size #[.pointer (some ⟨rb,0,none⟩)]:=HBX.out.gr hg5 (by omega);have hrd5:Blk w5 rb #[.string ⟨u.toArray⟩,.int .i64 ((d:Int)+1)]:=Blk.gr HRD.out hg5 (by omega)
        have hgr5:w.grownBy w5 (some rb):=⟨hg5.os.trans HG4.out.os,hg5.tape.trans HG4.out.tape,hg5.output.trans HG4.out.output,by omega,fun q hq hne=>(hg5.block q (by omega) (fun he=>by injection he with he;omega)).trans (HG4.out.block q hq hne)⟩
        have hz6:(w5.setCell ⟨rb,1,none⟩ (.int .i64 (d:Int))).heap.size=w5.heap.size:=by simp
        have HFIN:=qq (HYQ.out a4 c4 (w5.setCell ⟨rb,1,none⟩ (.int .i64 (d:Int))) (HKC.out.keep (by omega) (by rw[hz6];exact hw45) (fun q hq1 hq2=>(Below.heap_setCell _ _ _ _ (by dsimp only;omega)).trans (hg5.block q hq2 (fun he=>by injection he with he;omega)))) (rd_set1 hrd5) (gr_setb hgr5 1 _));rw[←HN4.out] at HFIN
        have HB5:Hid (Blk (w5.setCell ⟨rb,1,none⟩ (.int .i64 (d:Int))) (w.heap.size+1) #[.int .i64 3,.string ⟨#[]⟩,.bool false,.slice a4 n4 c4]):=qq (Blk.same hb5 (by simp) (Below.heap_setCell _ _ _ _ (by dsimp only;omega)));have HBX5:=qq hbx5;have HRD5:=qq hrd5;clear hT hb5 hg5 hbx5 hrd5 hgr5 hz6;go_wp2_with fail
        refine leaves_cons (f:=61) (args:= #[.pointer (some ⟨w.heap.size,0,none⟩)]) (by simp) (by simp[go_sem]) ?_;refine(expr1_of w.heap.size rb _ d _ w5 HBX5.out HRD5.out (by omega)).mono ?_;rintro e u' w'' ⟨rfl,rfl,rfl⟩;obtain⟨w6,hw6⟩:∃q,q=w5.setCell ⟨rb,1,none⟩ (.int .i64 (d:Int)):=⟨_,rfl⟩
        rw[←hw6] at HB5 HFIN⊢;have x0:w6.cell? ⟨w.heap.size+1,0,none⟩=some (.int .i64 3):=HB5.out.cell 0;have x1:w6.cell? ⟨w.heap.size+1,1,none⟩=some (.string ⟨#[]⟩):=HB5.out.cell 1;have x2:w6.cell? ⟨w.heap.size+1,2,none⟩=some (.bool false):=HB5.out.cell 2;have x3:w6.cell? ⟨w.heap.size+1,3,none⟩=some (.slice a4 n4 c4):=HB5.out.cell 3;clear hw6
        simp[Leaves,settle,results,Tryz.results40,go_sem,x0,x1,x2,x3];exact HFIN.out
    · clear ql fl;have hh0:=HN1.out (by omega);have hh1:=HN2.out (by omega);have HQF:=qq (HQ3.out (by omega) hh0 hh1);clear hh0 hh1;generalize hW:wr=W at*;clear hW;have r0:W.cell? ⟨rb,0,none⟩=some (.string ⟨s.toArray⟩):=HI.out.rd.cell 0;have lr0:=HI.out.rd.lt;have HLT:=qq isLetter_of;have HIX:=qq (fun(i:Nat) (c:UInt8) (h:s[i]? =some c)=>str_index h);have hsz:=str_size s
      obtain⟨n,hn⟩:∃n,n=s.length:=⟨_,rfl⟩
      have HNN:=qq hn;rw[←hn] at hsz;have hn2:n≤20000:=by omega
      clear hn;go_wp2_with fail;go_loopw [8] (fun cc wq=>∃k:Nat,k≤n∧cc=.int .i64 (k:Int)∧wq=W∧Hid (∀(j:Nat) (c:UInt8),j<k→s[j]? =some c→isLet c=true)) (fun cc _=>n - (intOf cc).toNat)
      case atStart=>exact⟨0,by omega,by first | rfl | go_num,by first | rfl | exact True.intro,qq (fun j c h=>by omega)⟩
      case round=>
       obtain⟨k,hk,rfl,rfl,HA⟩:=hrel;have hk0:(0:Int)≤(k:Int):=by omega
       by_cases hlt:k<n
       · have hk1:(k:Int)<(n:Int):=by omega
         obtain⟨c,hc⟩:∃c,s[k]? =some c:=⟨_,List.getElem?_eq_getElem (by rw[←HNN.out];exact hlt)⟩
         have hix:=HIX.out k c hc;have HC:=qq hc;clear hc hlt
         cases hq:isLet c with
         | true=>
          have HLC:=qq (isLetter_of c);rw[hq] at HLC;have HQQ:=qq hq;clear hq;go_wp2_with fail;refine(HLC.out _).mono ?_;rintro e w2 ⟨rfl,rfl⟩;go_wp2_with fail;have HA2:Hid (∀(j:Nat) (c:UInt8),j<k+1→s[j]? =some c→isLet c=true):=qq (fun j d hj hd=>by
            rcases Nat.lt_or_ge j k with h | h
            · exact HA.out j d h hd
            · obtain rfl:j=k:=by omega
              rw[HC.out] at hd;injection hd with hd
              rw[←hd];exact HQQ.out)
          go_roundw
          case rel=>exact⟨_,_,_,_,_,_,_,_,_,_,_,_,_,_,_,_,_,_,_,⟨k+1,by omega,by go_num,by first | rfl | exact True.intro,HA2⟩,rfl⟩
          case measure=>simp[intOf];omega
         | false=>
          have HLC:=qq (isLetter_of c);rw[hq] at HLC;have HQQ:=qq hq;clear hq;go_wp2_with fail;refine(HLC.out _).mono ?_;rintro e w2 ⟨rfl,rfl⟩;have HTW:=qq (take_drop_no k c HA.out HC.out HQQ.out);have hkn:(k:Int)≤(n:Int):=by omega
          have hkn2:k≤n:=by omega
          clear HC HQQ HLC hix hk1;have HQN:=qq HQF.out;rw[HTW.out.1,HTW.out.2] at HQN;have hex1:(⟨s.toArray⟩:ByteArray).extract 0 k=⟨(s.take k).toArray⟩:=ex_take s k;have hex2:(⟨s.toArray⟩:ByteArray).extract k n=⟨(s.drop k).toArray⟩:=by rw[HNN.out];exact ex_drop s k
          obtain⟨nm,hnm⟩:∃q,q=s.take k:=⟨_,rfl⟩
          obtain⟨sr,hsr⟩:∃q,q=s.drop k:=⟨_,rfl⟩
          rw[←hnm] at hex1 HQN;rw[←hsr] at hex2 HQN;have hsrl:sr.length≤20000:=by rw[hsr,List.length_drop];omega
          clear hnm hsr HTW HA;go_wp2_with fail;have HI8:Hid (InEx w (wr.alloc (.cells #[.int .i64 1,.string ⟨nm.toArray⟩,.bool false,.slice none 0 0] 27)).drew rb s d):=qq (HI.out.al _).drew
          have HE8:Hid (Blk (wr.alloc (.cells #[.int .i64 1,.string ⟨nm.toArray⟩,.bool false,.slice none 0 0] 27)).drew wr.heap.size #[.int .i64 1,.string ⟨nm.toArray⟩,.bool false,.slice none 0 0]):=qq (Blk.fresh wr _ _ _ rfl).drew
          have HB8:Hid (Below w0.heap.size w0 (wr.alloc (.cells #[.int .i64 1,.string ⟨nm.toArray⟩,.bool false,.slice none 0 0] 27)).drew):=qq (bel_drew (HB.out.alloc HB.out.size _));refine wp_mono (Q:=fun e a w=>e=.normal∧_) ?_ (fun e a w h=>h.2)
          refine reg_startZ (fun w'=>InEx w w' rb s d∧Blk w' wr.heap.size #[.int .i64 1,.string ⟨nm.toArray⟩,.bool false,.slice none 0 0]∧Below w0.heap.size w0 w') (fun _=>True) (by kernel_rfl) ⟨HI8.out,HE8.out,HB8.out⟩ True.intro (fun i=>i==9) ?_;rintro w6 hHeld _
          refine takeX (d:=some 72) 0 rfl rfl hHeld (fun w' hS'=>by have qX:w'.cell? ⟨w.heap.size,0,none⟩=some (.pointer (some ⟨rb,0,none⟩)):=hS'.1.bx.cell 0;clear hS';go_simp;(try rfl)) ?_ (hQ:=noPanic);simp only[puts]
          refine takeX (d:=some 73) 1 rfl rfl hHeld (fun w' hS'=>by have qX:w'.cell? ⟨w.heap.size,0,none⟩=some (.pointer (some ⟨rb,0,none⟩)):=hS'.1.bx.cell 0;clear hS';go_simp;(try rfl)) ?_ (hQ:=noPanic);simp only[puts];refine takeX (d:=some 74) 2 rfl rfl hHeld (fun w' hS'=>by clear hS';go_simp;(try rfl)) ?_ (hQ:=noPanic);simp only[puts]
          refine takeX (d:=some 75) 3 rfl rfl hHeld (fun w' hS'=>by clear hS';go_simp;(try rfl)) ?_ (hQ:=noPanic);simp only[puts];refine takeX (d:=some 76) 4 rfl rfl hHeld (fun w' hS'=>by have qR:w'.cell? ⟨rb,0,none⟩=some (.string ⟨s.toArray⟩):=hS'.1.rd.cell 0;clear hS';go_simp;(try rfl)) ?_ (hQ:=noPanic);simp only[puts]
          refine takeX (d:=some 77) 5 rfl rfl hHeld (fun w' hS'=>by clear hS';go_simp;(try rfl)) ?_ (hQ:=noPanic);simp only[puts];refine takeX (d:=some 78) 6 rfl rfl hHeld (fun w' hS'=>by clear hS';go_simp;(try rfl)) ?_ (hQ:=noPanic);simp only[puts];refine pure_X (d:=some 79) 7 rfl rfl hHeld (by go_simp;(try rfl)) ?_;simp only[puts]
          refine pure_X (d:=some 80) 8 rfl rfl hHeld (by go_simp;(try rfl)) ?_;simp only[puts];refine set_X 9 (w6.setCell ⟨rb,0,none⟩ (.string ⟨sr.toArray⟩)) rfl rfl ?hrun (.inl rfl) ?_
          case hrun=>
           have qR:w6.cell? ⟨rb,0,none⟩=some (.string ⟨s.toArray⟩):=hHeld.1.rd.cell 0;have qF:w6.frozen? ⟨rb,0,none⟩=false:=hHeld.1.rd.free 0;clear hHeld;go_simp
           (try with_reducible rfl)
          refine doneX (by kernel_rfl) ?_ _;refine⟨rfl,?_⟩;have hrbe:rb≠wr.heap.size:=by have:=HI.out.gr.size;omega
          obtain⟨w7,hw7⟩:∃q,q=w6.setCell ⟨rb,0,none⟩ (.string ⟨sr.toArray⟩):=⟨_,rfl⟩
          have HI9:Hid (InEx w w7 rb sr d):=qq (by rw[hw7];exact hHeld.1.set hrw);have HE9:Hid (Blk w7 wr.heap.size #[.int .i64 1,.string ⟨nm.toArray⟩,.bool false,.slice none 0 0]):=qq (by rw[hw7];exact Blk.same hHeld.2.1 (by simp) (Below.heap_setCell _ _ _ _ (by dsimp only;omega)));rw[←hw7];have b9:w7.cell? ⟨w.heap.size,0,none⟩=some (.pointer (some ⟨rb,0,none⟩)):=HI9.out.bx.cell 0
          have lb9:=HI9.out.bx.lt;have HH9:=qq (has_of sr 63 rb (.int .i64 ((d:Int)+1)) w7 HI9.out.rd);clear hw7 hHeld r0 lr0 b0 lb0;go_wp2_with fail;refine HH9.out.mono ?_;rintro e w8 ⟨rfl,hw8⟩;have HI10:Hid (InEx w w8 rb ((rHas 63 sr).getD sr) d):=qq (by
            rw[hw8]
            cases rHas 63 sr with
            | none=>exact HI9.out
            | some u=>exact HI9.out.set hrw)
          have HE10:Hid (Blk w8 wr.heap.size #[.int .i64 1,.string ⟨nm.toArray⟩,.bool false,.slice none 0 0]):=qq (by
            rw[hw8]
            cases rHas 63 sr with
            | none=>exact HE9.out
            | some u=>exact Blk.same HE9.out (by simp[hasW]) (Below.heap_setCell _ _ _ _ (by dsimp only;omega)))
          clear hw8;generalize(rHas 63 sr).getD sr=rest at*;generalize(rHas 63 sr).isSome=bo at*;obtain⟨le,qe,fe⟩:=HE10.out;have hwz:w.heap.size+1<wr.heap.size:=(Array.getElem?_eq_some_iff.1 HI.out.res).1
          have hT:(w8.setCell ⟨wr.heap.size,2,none⟩ (.bool bo)).heap[w.heap.size+1]? =some (.cells #[.int .i64 0,.string ⟨#[]⟩,.bool false,.slice none 0 0] 27 (0,0)):=hp_st HI10.out.res (by dsimp only;omega) _
          go_wp2_with (refine row_go 27 (.tmp 2) (.tmp 84) rfl rfl (w.heap.size+1) #[.int .i64 1,.string ⟨nm.toArray⟩,.bool bo,.slice none 0 0] #[.int .i64 0,.string ⟨#[]⟩,.bool false,.slice none 0 0] 27 hT rfl rfl (by kernel_rfl) rfl (by simp[Value.oneCell']) ?_);intro w9 hb9 hg9;have hws:(w8.setCell ⟨wr.heap.size,2,none⟩ (.bool bo)).heap.size=w8.heap.size:=by simp
          have hw89:=hg9.size;rw[hws] at hw89;have hw8:=HI10.out.gr.size;have lt8:=HE10.out.lt
          have hgr9:w.grownBy w9 (some rb):=⟨hg9.os.trans HI10.out.gr.os,hg9.tape.trans HI10.out.gr.tape,hg9.output.trans HI10.out.gr.output,by omega,fun q hq hne=>(hg9.block q (by rw[hws];omega) (fun he=>by injection he with he;omega)).trans ((Below.heap_setCell _ _ _ _ (by dsimp only;omega)).trans (HI10.out.gr.block q hq hne))⟩
          have hbx9:Blk w9 w.heap.size #[.pointer (some ⟨rb,0,none⟩)]:=Blk.gr (Blk.same HI10.out.bx (by simp) (Below.heap_setCell _ _ _ _ (by dsimp only;omega))) hg9 (by omega);have hrd9:Blk w9 rb #[.string ⟨rest.toArray⟩,.int .i64 ((d:Int)+1)]:=Blk.gr (Blk.same HI10.out.rd (by simp) (Below.heap_setCell _ _ _ _ (by dsimp only;omega))) hg9 (by omega)
          have HFIN:=qq (HYES.out 1 nm bo .nil rest none 0 (w9.setCell ⟨rb,1,none⟩ (.int .i64 (d:Int))) HQN.out KC.nil (rd_set1 hrd9) (gr_setb hgr9 1 _));have HB5:Hid (Blk (w9.setCell ⟨rb,1,none⟩ (.int .i64 (d:Int))) (w.heap.size+1) #[.int .i64 1,.string ⟨nm.toArray⟩,.bool bo,.slice none 0 0]):=qq (Blk.same hb9 (by simp) (Below.heap_setCell _ _ _ _ (by dsimp only;omega)))
          have HBX5:=qq hbx9;have HRD5:=qq hrd9;clear hT hb9 hg9 hbx9 hrd9 hgr9;go_wp2_with fail;refine leaves_cons (f:=61) (args:= #[.pointer (some ⟨w.heap.size,0,none⟩)]) (by simp) (by simp[go_sem]) ?_;refine(expr1_of w.heap.size rb _ d _ w9 HBX5.out HRD5.out (by omega)).mono ?_;rintro e u' w'' ⟨rfl,rfl,rfl⟩;obtain⟨w6,hw6⟩:∃q,q=w9.setCell ⟨rb,1,none⟩ (.int .i64 (d:Int)):=⟨_,rfl⟩
          rw[←hw6] at HB5 HFIN⊢;have x0:w6.cell? ⟨w.heap.size+1,0,none⟩=some (.int .i64 1):=HB5.out.cell 0;have x1:w6.cell? ⟨w.heap.size+1,1,none⟩=some (.string ⟨nm.toArray⟩):=HB5.out.cell 1;have x2:w6.cell? ⟨w.heap.size+1,2,none⟩=some (.bool bo):=HB5.out.cell 2;have x3:w6.cell? ⟨w.heap.size+1,3,none⟩=some (.slice none 0 0):=HB5.out.cell 3;clear hw6
          simp[Leaves,settle,results,Tryz.results40,go_sem,x0,x1,x2,x3];exact HFIN.out
       · obtain rfl:n=k:=by omega
         have HTW:=qq (take_drop_all (s:=s) (by rw[←HNN.out];exact HA.out));rw[←HNN.out] at HTW;have hkn:(n:Int)≤(n:Int):=by omega
         have hkn2:n≤n:=by omega
         have HQN:=qq HQF.out;rw[HTW.out.1,HTW.out.2] at HQN;have hex1:(⟨s.toArray⟩:ByteArray).extract 0 n=⟨(s.take n).toArray⟩:=ex_take s n;have hex2:(⟨s.toArray⟩:ByteArray).extract n n=⟨(s.drop n).toArray⟩:=by have:=ex_drop s n;rw[←HNN.out] at this;exact this
         obtain⟨nm,hnm⟩:∃q,q=s.take n:=⟨_,rfl⟩
         obtain⟨sr,hsr⟩:∃q,q=s.drop n:=⟨_,rfl⟩
         rw[←hnm] at hex1 HQN;rw[←hsr] at hex2 HQN;have hsrl:sr.length≤20000:=by rw[hsr,List.length_drop];omega
         have HSR0:Hid (sr=[]):=qq (by rw[hsr,HNN.out];simp);clear hnm hsr HTW HA;go_wp2_with fail;have HI8:Hid (InEx w (wr.alloc (.cells #[.int .i64 1,.string ⟨nm.toArray⟩,.bool false,.slice none 0 0] 27)).drew rb s d):=qq (HI.out.al _).drew
         have HE8:Hid (Blk (wr.alloc (.cells #[.int .i64 1,.string ⟨nm.toArray⟩,.bool false,.slice none 0 0] 27)).drew wr.heap.size #[.int .i64 1,.string ⟨nm.toArray⟩,.bool false,.slice none 0 0]):=qq (Blk.fresh wr _ _ _ rfl).drew
         have HB8:Hid (Below w0.heap.size w0 (wr.alloc (.cells #[.int .i64 1,.string ⟨nm.toArray⟩,.bool false,.slice none 0 0] 27)).drew):=qq (bel_drew (HB.out.alloc HB.out.size _));refine wp_mono (Q:=fun e a w=>e=.normal∧_) ?_ (fun e a w h=>h.2)
         refine reg_startZ (fun w'=>InEx w w' rb s d∧Blk w' wr.heap.size #[.int .i64 1,.string ⟨nm.toArray⟩,.bool false,.slice none 0 0]∧Below w0.heap.size w0 w') (fun _=>True) (by kernel_rfl) ⟨HI8.out,HE8.out,HB8.out⟩ True.intro (fun i=>i==9) ?_;rintro w6 hHeld _
         refine takeX (d:=some 72) 0 rfl rfl hHeld (fun w' hS'=>by have qX:w'.cell? ⟨w.heap.size,0,none⟩=some (.pointer (some ⟨rb,0,none⟩)):=hS'.1.bx.cell 0;clear hS';go_simp;(try rfl)) ?_ (hQ:=noPanic);simp only[puts]
         refine takeX (d:=some 73) 1 rfl rfl hHeld (fun w' hS'=>by have qX:w'.cell? ⟨w.heap.size,0,none⟩=some (.pointer (some ⟨rb,0,none⟩)):=hS'.1.bx.cell 0;clear hS';go_simp;(try rfl)) ?_ (hQ:=noPanic);simp only[puts];refine takeX (d:=some 74) 2 rfl rfl hHeld (fun w' hS'=>by clear hS';go_simp;(try rfl)) ?_ (hQ:=noPanic);simp only[puts]
         refine takeX (d:=some 75) 3 rfl rfl hHeld (fun w' hS'=>by clear hS';go_simp;(try rfl)) ?_ (hQ:=noPanic);simp only[puts];refine takeX (d:=some 76) 4 rfl rfl hHeld (fun w' hS'=>by have qR:w'.cell? ⟨rb,0,none⟩=some (.string ⟨s.toArray⟩):=hS'.1.rd.cell 0;clear hS';go_simp;(try rfl)) ?_ (hQ:=noPanic);simp only[puts]
         refine takeX (d:=some 77) 5 rfl rfl hHeld (fun w' hS'=>by clear hS';go_simp;(try rfl)) ?_ (hQ:=noPanic);simp only[puts];refine takeX (d:=some 78) 6 rfl rfl hHeld (fun w' hS'=>by clear hS';go_simp;(try rfl)) ?_ (hQ:=noPanic);simp only[puts];refine pure_X (d:=some 79) 7 rfl rfl hHeld (by go_simp;(try rfl)) ?_;simp only[puts]
         refine pure_X (d:=some 80) 8 rfl rfl hHeld (by go_simp;(try rfl)) ?_;simp only[puts];refine set_X 9 (w6.setCell ⟨rb,0,none⟩ (.string ⟨sr.toArray⟩)) rfl rfl ?hrun (.inl rfl) ?_
         case hrun=>
          have qR:w6.cell? ⟨rb,0,none⟩=some (.string ⟨s.toArray⟩):=hHeld.1.rd.cell 0;have qF:w6.frozen? ⟨rb,0,none⟩=false:=hHeld.1.rd.free 0;clear hHeld;go_simp
          (try with_reducible rfl)
          (try(rw[HSR0.out];rfl))
         refine doneX (by kernel_rfl) ?_ _;refine⟨rfl,?_⟩;have hrbe:rb≠wr.heap.size:=by have:=HI.out.gr.size;omega
         obtain⟨w7,hw7⟩:∃q,q=w6.setCell ⟨rb,0,none⟩ (.string ⟨sr.toArray⟩):=⟨_,rfl⟩
         have HI9:Hid (InEx w w7 rb sr d):=qq (by rw[hw7];exact hHeld.1.set hrw);have HE9:Hid (Blk w7 wr.heap.size #[.int .i64 1,.string ⟨nm.toArray⟩,.bool false,.slice none 0 0]):=qq (by rw[hw7];exact Blk.same hHeld.2.1 (by simp) (Below.heap_setCell _ _ _ _ (by dsimp only;omega)));rw[←hw7];have b9:w7.cell? ⟨w.heap.size,0,none⟩=some (.pointer (some ⟨rb,0,none⟩)):=HI9.out.bx.cell 0
         have lb9:=HI9.out.bx.lt;have HH9:=qq (has_of sr 63 rb (.int .i64 ((d:Int)+1)) w7 HI9.out.rd);clear hw7 hHeld r0 lr0 b0 lb0;go_wp2_with fail;refine HH9.out.mono ?_;rintro e w8 ⟨rfl,hw8⟩;have HI10:Hid (InEx w w8 rb ((rHas 63 sr).getD sr) d):=qq (by
           rw[hw8]
           cases rHas 63 sr with
           | none=>exact HI9.out
           | some u=>exact HI9.out.set hrw)
         have HE10:Hid (Blk w8 wr.heap.size #[.int .i64 1,.string ⟨nm.toArray⟩,.bool false,.slice none 0 0]):=qq (by
           rw[hw8]
           cases rHas 63 sr with
           | none=>exact HE9.out
           | some u=>exact Blk.same HE9.out (by simp[hasW]) (Below.heap_setCell _ _ _ _ (by dsimp only;omega)))
         clear hw8;generalize(rHas 63 sr).getD sr=rest at*;generalize(rHas 63 sr).isSome=bo at*;obtain⟨le,qe,fe⟩:=HE10.out;have hwz:w.heap.size+1<wr.heap.size:=(Array.getElem?_eq_some_iff.1 HI.out.res).1
         have hT:(w8.setCell ⟨wr.heap.size,2,none⟩ (.bool bo)).heap[w.heap.size+1]? =some (.cells #[.int .i64 0,.string ⟨#[]⟩,.bool false,.slice none 0 0] 27 (0,0)):=hp_st HI10.out.res (by dsimp only;omega) _
         go_wp2_with (refine row_go 27 (.tmp 2) (.tmp 84) rfl rfl (w.heap.size+1) #[.int .i64 1,.string ⟨nm.toArray⟩,.bool bo,.slice none 0 0] #[.int .i64 0,.string ⟨#[]⟩,.bool false,.slice none 0 0] 27 hT rfl rfl (by kernel_rfl) rfl (by simp[Value.oneCell']) ?_);intro w9 hb9 hg9;have hws:(w8.setCell ⟨wr.heap.size,2,none⟩ (.bool bo)).heap.size=w8.heap.size:=by simp
         have hw89:=hg9.size;rw[hws] at hw89;have hw8:=HI10.out.gr.size;have lt8:=HE10.out.lt
         have hgr9:w.grownBy w9 (some rb):=⟨hg9.os.trans HI10.out.gr.os,hg9.tape.trans HI10.out.gr.tape,hg9.output.trans HI10.out.gr.output,by omega,fun q hq hne=>(hg9.block q (by rw[hws];omega) (fun he=>by injection he with he;omega)).trans ((Below.heap_setCell _ _ _ _ (by dsimp only;omega)).trans (HI10.out.gr.block q hq hne))⟩
         have hbx9:Blk w9 w.heap.size #[.pointer (some ⟨rb,0,none⟩)]:=Blk.gr (Blk.same HI10.out.bx (by simp) (Below.heap_setCell _ _ _ _ (by dsimp only;omega))) hg9 (by omega);have hrd9:Blk w9 rb #[.string ⟨rest.toArray⟩,.int .i64 ((d:Int)+1)]:=Blk.gr (Blk.same HI10.out.rd (by simp) (Below.heap_setCell _ _ _ _ (by dsimp only;omega))) hg9 (by omega)
         have HFIN:=qq (HYES.out 1 nm bo .nil rest none 0 (w9.setCell ⟨rb,1,none⟩ (.int .i64 (d:Int))) HQN.out KC.nil (rd_set1 hrd9) (gr_setb hgr9 1 _));have HB5:Hid (Blk (w9.setCell ⟨rb,1,none⟩ (.int .i64 (d:Int))) (w.heap.size+1) #[.int .i64 1,.string ⟨nm.toArray⟩,.bool bo,.slice none 0 0]):=qq (Blk.same hb9 (by simp) (Below.heap_setCell _ _ _ _ (by dsimp only;omega)))
         have HBX5:=qq hbx9;have HRD5:=qq hrd9;clear hT hb9 hg9 hbx9 hrd9 hgr9;go_wp2_with fail;refine leaves_cons (f:=61) (args:= #[.pointer (some ⟨w.heap.size,0,none⟩)]) (by simp) (by simp[go_sem]) ?_;refine(expr1_of w.heap.size rb _ d _ w9 HBX5.out HRD5.out (by omega)).mono ?_;rintro e u' w'' ⟨rfl,rfl,rfl⟩;obtain⟨w6,hw6⟩:∃q,q=w9.setCell ⟨rb,1,none⟩ (.int .i64 (d:Int)):=⟨_,rfl⟩
         rw[←hw6] at HB5 HFIN⊢;have x0:w6.cell? ⟨w.heap.size+1,0,none⟩=some (.int .i64 1):=HB5.out.cell 0;have x1:w6.cell? ⟨w.heap.size+1,1,none⟩=some (.string ⟨nm.toArray⟩):=HB5.out.cell 1;have x2:w6.cell? ⟨w.heap.size+1,2,none⟩=some (.bool bo):=HB5.out.cell 2;have x3:w6.cell? ⟨w.heap.size+1,3,none⟩=some (.slice none 0 0):=HB5.out.cell 3;clear hw6
         simp[Leaves,settle,results,Tryz.results40,go_sem,x0,x1,x2,x3];exact HFIN.out
 · have h12b:decide ((d:Int)+1≤12)=false:=by rw[decide_eq_false_iff_not];omega
   have hqn:Q=none:=HQ0.out (by omega);refine wp_mono (Q:=fun e a' w'=>e=.panic [{v:=errV (ea 4),recovered:=false}]∧a'.defers=[{target:=.fn (.func 61) #[.pointer (some ⟨w.heap.size,0,none⟩)],args:= #[]}]∧InEx w w' rb s d) ?_ ?_
   ·
    refine reg_startZ (fun w'=>InEx w w' rb s d∧Below w0.heap.size w0 w') (fun _=>True) (by kernel_rfl) ⟨HIN.out.drew,bel_drew HIB.out⟩ True.intro (fun _=>false) ?_;rintro w6 hHeld _;refine takeX (d:=some 18) 0 rfl rfl hHeld (fun w' hS'=>by have qX:w'.cell? ⟨w.heap.size,0,none⟩=some (.pointer (some ⟨rb,0,none⟩)):=hS'.1.bx.cell 0;clear hS';go_simp;(try rfl)) ?_;simp only[puts]
    refine takeX (d:=some 19) 1 rfl rfl hHeld (fun w' hS'=>by clear hS';go_simp;(try rfl)) ?_;simp only[puts];refine takeX (d:=some 20) 2 rfl rfl hHeld (fun w' hS'=>by clear hS';go_simp;(try rfl)) ?_;simp only[puts];refine takeX (d:=some 21) 3 rfl rfl hHeld (fun w' hS'=>by have qR:w'.cell? ⟨rb,1,none⟩=some (.int .i64 ((d:Int)+1)):=hS'.1.rd.cell 1;clear hS';go_simp;(try rfl)) ?_;simp only[puts]
    refine takeX (d:=some 22) 4 rfl rfl hHeld (fun w' hS'=>by have h9:=h12b;clear hS';go_simp;(try rfl)) ?_;simp only[puts];refine takeX (d:=some 23) 5 rfl rfl hHeld (fun w' hS'=>by have qG:=HGE.out _ hS'.2;clear hS';go_simp;(try rfl)) ?_;simp only[puts];refine one_X 6 (by kernel_rfl) ?_
    refine wpOp_die [{v:=errV (ea 4),recovered:=false}] 6 41 _ _ [.bool false,errV (ea 4)] rfl rfl (enters_of Tryz.func41 (by kernel_rfl) rfl) (by rfl) (by rfl) ?_;refine(fail_no _ _).mono ?_;rintro e w8 ⟨rfl,rfl⟩;exact⟨rfl,rfl,rfl,hHeld.1⟩
   · rintro e a' w' ⟨rfl,hdef,hin⟩;have HFIN:=qq (HNO.out (w'.setCell ⟨rb,1,none⟩ (.int .i64 (d:Int))) hqn ⟨s,rd_set1 hin.rd⟩ (gr_setb hin.gr 1 _));show Leaves _ _ a'.tmps R a'.defers _ w'
     rw[hdef];refine leaves_cons (f:=61) (args:= #[.pointer (some ⟨w.heap.size,0,none⟩)]) (by simp) (by simp[go_sem]) ?_;refine(expr1_of w.heap.size rb _ d _ w' hin.bx hin.rd (by omega)).mono ?_;rintro e u' w'' ⟨rfl,rfl,rfl⟩;exact HFIN.out
end Go.Proofs.YtbepkpjcjpmpmaaGreatDoor
