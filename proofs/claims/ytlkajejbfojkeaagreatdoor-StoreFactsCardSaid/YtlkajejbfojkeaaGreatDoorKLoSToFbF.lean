/- LoS, FbA, FbA2, FbB, FbC, FbD, FbE, FbF -/
import Derived.Test.YtlkajejbfojkeaaGreatDoorKRfcBToStepR
import Derived.Laws.Bits64b
import Derived.RangeFuncRecord
set_option linter.unusedSimpArgs false
set_option linter.unusedVariables false
set_option maxRecDepth 100000
set_option maxHeartbeats 16000000
namespace Go.Proofs.YtlkajejbfojkeaaGreatDoor
open Go.RowKit
theorem bst {w w':World} (h:Below w.heap.size w w') (b o:Nat) (v:Value) (hb:w.heap.size≤b:=by omega):Below w.heap.size w (w'.setCell ⟨b,o,none⟩ v):=bel_set h (p:=⟨b,o,none⟩) hb v
theorem hst {w:World} {k:Nat} {q:Obj} (h:w.heap[k]? =some q) (b o:Nat) (v:Value) (hb:b≠k:=by omega):(w.setCell ⟨b,o,none⟩ v).heap[k]? =some q:=hp_st h (p:=⟨b,o,none⟩) hb v
theorem sst {w:World} {b:Nat} {C:Array Value} (h:Blk w b C) (i:Nat) (v:Value) (hi:i<C.size:=by simp):Blk (w.setCell ⟨b,i,none⟩ v) b (C.set i v hi):=h.set' i hi v
attribute [local go_sem] store_float
def KeepF (o:Option Nat) (w w':World):Prop:=w.heap.size≤w'.heap.size∧∀k,k<w.heap.size→o≠some k→w'.heap[k]? =w.heap[k]?
theorem KeepF.of_below {o:Option Nat} {w w':World} (h:Below w.heap.size w w'):KeepF o w w':=⟨h.size,fun k hk _=>h.block k hk⟩
theorem KeepF.alloc {o:Option Nat} {w w':World} (h:KeepF o w w') (x:Obj):KeepF o w (w'.alloc x):=⟨Nat.le_trans h.1 (by simp),fun k hk hn=>(((Below.refl _ _).alloc (Nat.le_refl _) x).block k (Nat.lt_of_lt_of_le hk h.1)).trans (h.2 k hk hn)⟩
theorem KeepF.grown {o:Option Nat} {w w1 w2:World} (h:KeepF o w w1) (hg:w1.grownBy w2 o):KeepF o w w2:=⟨Nat.le_trans h.1 hg.size,fun k hk hn=>(hg.block k (Nat.lt_of_lt_of_le hk h.1) (fun e=>hn e.symm)).trans (h.2 k hk hn)⟩
theorem KeepF.blk {o:Option Nat} {w w':World} {b:Nat} {C:Array Value} (h:KeepF o w w') (hb:Blk w b C) (hn:o≠some b):Blk w' b C:=hb.same h.1 (h.2 b hb.lt hn)
theorem KeepF.later {o:Option Nat} {w w1 w2:World} (h:KeepF o w w1) (hb:Below w1.heap.size w1 w2):KeepF o w w2:=⟨Nat.le_trans h.1 hb.size,fun k hk hn=>(hb.block k (Nat.lt_of_lt_of_le hk h.1)).trans (h.2 k hk hn)⟩
theorem KeepF.cell {o:Option Nat} {w w':World} {b f:Nat} {v:Value} (h:KeepF o w w') (hc:w.cell? ⟨b,f,none⟩=some v) (hn:o≠some b):w'.cell? ⟨b,f,none⟩=some v:=by
 have e:=h.2 b (lt_of_cell hc) hn;rw[←hc];simp[World.cell?,e]
theorem own_emptyB (w:World) (B:Nat) (T:TypeId) (size:Nat) (hB:B≤w.heap.size):(w.alloc (.cells #[] T)).ownsRow B T size (.slice (some ⟨w.heap.size,0,none⟩) 0 0) 0 []:=
 ⟨by simp,.inr ⟨w.heap.size,0,#[],rfl,hB,World.alloc_heap_new w _,Nat.le_refl _,by unfold maxLen;omega,by simp,by simp⟩⟩
def byteL (c:Nat):Value:=.int .u8 (c:Int)
def bytesL (bs:List Nat):List Value:=bs.map byteL
theorem bytesL_one (bs:List Nat):∀u∈bytesL bs,u.oneCell'=true:=by
 intro u hu;obtain⟨c,_,rfl⟩:=List.mem_map.1 hu;rfl
theorem infoByte:(Tryz.prog.info? 5).map (fun i=>(i.zero,i.size,i.bytes))=some (some (.int .u8 0),1,1):=by kernel_rfl
theorem or_hi (a b:Nat) (hb:b<256):a*256 ||| b=a*256+b:=by
 have:=Nat.shiftLeft_add_eq_or_of_lt (i:=8) (b:=b) (by omega) a;rw[←Nat.shiftLeft_eq a 8];exact this.symm
theorem bits_or_i64_nat (a b:Nat) (ha:a<9223372036854775808) (hb:b<9223372036854775808):bits .or .i64 (a:Int) (b:Int)=((a ||| b:Nat):Int):=by
 have hx:a ||| b<2 ^ 63:=Nat.or_lt_two_pow (by omega) (by omega)
 have h1:(BitVec.ofInt 64 (a:Int)).toNat=a:=by
  rw[BitVec.ofInt_natCast,BitVec.toNat_ofNat];exact Nat.mod_eq_of_lt (by omega)
 have h2:(BitVec.ofInt 64 (b:Int)).toNat=b:=by
  rw[BitVec.ofInt_natCast,BitVec.toNat_ofNat];exact Nat.mod_eq_of_lt (by omega)
 show IntKind.i64.wrap ((BitVec.ofInt 64 (a:Int) ||| BitVec.ofInt 64 (b:Int)).toNat:Int)=_
 rw[BitVec.toNat_or,h1,h2];exact IntWalk.i64_in _ ⟨by omega,by omega⟩
theorem or_byte (a b:Nat) (ha:a<36028797018963968) (hb:b<256):bits .or .i64 ((a:Int)*256) (b:Int)=((a*256+b:Nat):Int):=by
 have e:((a:Int)*256)=((a*256:Nat):Int):=by omega
 rw[e,bits_or_i64_nat _ _ (by omega) (by omega),or_hi a b hb]
def ByteC (w:World) (g off:Nat) (bs:List Nat):Prop:=∀(j c:Nat),bs[j]? =some c→w.cell? ⟨g,off+j,none⟩=some (.int .u8 (c:Int))
theorem ByteC.below {w w':World} {g off:Nat} {bs:List Nat} (h:ByteC w g off bs) (hb:Below w.heap.size w w') (hg:g<w.heap.size):ByteC w' g off bs:=fun j c hj=>(hb.cell (p:=⟨g,off+j,none⟩) hg).trans (h j c hj)
theorem ByteC.drop {w:World} {g off:Nat} {bs:List Nat} (h:ByteC w g off bs) (n:Nat):ByteC w g (off+n) (bs.drop n):=fun j c hj=>by
 rw[List.getElem?_drop] at hj;rw[Nat.add_assoc];exact h _ _ hj
theorem ByteC.take {w:World} {g off:Nat} {bs:List Nat} (h:ByteC w g off bs) (n:Nat):ByteC w g off (bs.take n):=fun j c hj=>by
 rw[List.getElem?_take] at hj;split at hj
 · exact h _ _ hj
 · cases hj
theorem ByteC.set {w:World} {g off b o:Nat} {bs:List Nat} {v:Value} (h:ByteC w g off bs) (hn:g≠b):ByteC (w.setCell ⟨b,o,none⟩ v) g off bs:=fun j c hj=>by
 rw[World.cell?_setCell_other (h:=by intro e;injection e with e _;exact hn e.symm)];exact h j c hj
theorem take_yes (rb:Nat) (g off len cap n:Nat) (lt ct:Int) (w:World) (hR:Blk w rb #[.slice (some ⟨g,off,none⟩) len cap,lt,ct]) (hc:len≤cap) (hn:n≤len) (hx:len≤1000):Calls Tryz.prog 292 #[.pointer (some ⟨rb,0,none⟩),.int .i64 n] w fun e w'=>e=.returned (.slice (some ⟨g,off,none⟩) n n)∧∃off',(n<len→off'=off+n)∧w'=w.setCell ⟨rb,0,none⟩ (.slice (some ⟨g,off',none⟩) (len - n) (cap - n)):=by
 obtain⟨l,q,f⟩:=hR;have h0:(0:Int)≤(n:Int):=by omega
 have h1:(n:Int)≤(len:Int):=by omega
 have h2:(n:Int)≤(cap:Int):=by omega
 have h3:¬(len:Int)<(n:Int):=by omega
 by_cases he:cap=n
 · obtain rfl:len=n:=by omega
   subst he;clear hn hc;go_enter Tryz.func292,Tryz.ntmps292;go_wp2_with fail
   all_goals (go_ret;refine⟨rfl,off,?_⟩;simp)
 · clear hn;go_enter Tryz.func292,Tryz.ntmps292;go_wp2_with fail;go_ret;exact⟨rfl,off+n,fun _=>rfl,rfl⟩
theorem take_no (rb:Nat) (a:Option Addr) (len cap n:Nat) (lt ct:Int) (ea:Int→Addr) (w:World) (hE:Errs ea w) (hR:Blk w rb #[.slice a len cap,lt,ct]) (hn:len<n):Calls Tryz.prog 292 #[.pointer (some ⟨rb,0,none⟩),.int .i64 n] w (Fails (errV (ea 2)) w):=by
 obtain⟨l,q,f⟩:=hR;have h3:(len:Int)<(n:Int):=by omega
 have h2:w.cell? ⟨1,0,none⟩=some (errV (ea 2)):=hE.e2;clear hE hn;go_enter Tryz.func292,Tryz.ntmps292;go_wp2_with fail;exact⟨rfl,rfl,Below.refl _ _⟩
theorem cloneB_of (g off n:Nat) (bs:List Nat) (w:World) (hl:bs.length=n) (hx:n≤1000) (h:ByteC w g off bs) (hg:g<w.heap.size):Calls Tryz.prog 293 #[.slice (some ⟨g,off,none⟩) n n] w fun e w'=>∃v,e=.returned v∧w'.ownsRow w.heap.size 5 1 v n (bytesL bs)∧Below w.heap.size w w':=by
 obtain⟨i0,ei,ez,es,eb⟩:=info_parts infoByte;have HB:=qq h;have HL:=qq hl;have hnil:∀W:World,(binOp .eql 65 (.slice (some ⟨g,off,none⟩) n n) (.slice none 0 0)).run Tryz.prog W=.ok (.bool false) W:=fun W=>Lib.run_eql_slice_nil W _ _ (some ⟨g,off,none⟩) n n 0 0 Tryz.underlying65
 clear h hl;go_enter Tryz.func293,Tryz.ntmps293;go_wp2_with (at_builtin;refine wpList_append_own_at _ rfl _ _ 65 rfl w.heap.size 5 i0 (.int .u8 0) 1 1 Tryz.underlying65 ei ez es eb rfl (by decide) _ 0 _ rfl (own_emptyB w w.heap.size 5 1 (Nat.le_refl _)) ⟨g,off,none⟩ n n (bytesL bs) rfl ?d2 ?d1 (bytesL_one bs) ?d3 ?d4 ?d5 ?_)
 case d1=>
  intro j u hu;unfold bytesL at hu;rw[List.getElem?_map] at hu;obtain⟨c,hc,rfl⟩:=Option.map_eq_some_iff.1 hu;have hh:=(HB.out.below ((Below.refl w.heap.size w).alloc (Nat.le_refl _) (.cells #[] 5)) hg) j c hc;have hadd:((⟨g,off,none⟩:Addr).add j)=⟨g,off+j,none⟩:=by unfold Addr.add;split<;>simp_all
  rw[hadd];exact hh
 case d2=>unfold bytesL;rw[List.length_map,HL.out];omega
 case d3=>unfold maxLen;omega
 case d4=>omega
 case d5=>simp
 intro v2 w6 hown hgrow _ _;have HO:=qq hown;have hb6:=(Below.refl w.heap.size w).alloc (Nat.le_refl _) (.cells #[] 5);have HB6:=qq (hb6.grown hgrow hb6.size (fun j hj=>Nat.le_of_eq (by simpa[Value.ownBlock] using hj)));clear hown hgrow hb6;go_wp2_with fail;go_ret;refine⟨_,rfl,?_,HB6.out⟩;have:=HO.out;simpa using this
structure RdrAt (w:World) (rb g:Nat) (bs:List Nat) (last cnt:Nat) (off cap:Nat):Prop where
 blk:Blk w rb #[.slice (some ⟨g,off,none⟩) bs.length cap,(last:Int),(cnt:Int)]
 cap:bs.length≤cap
 ne:g≠rb
 lt:g<w.heap.size
 cell:ByteC w g off bs
theorem RdrAt.below {w w':World} {rb g:Nat} {bs:List Nat} {last cnt off cap:Nat} (h:RdrAt w rb g bs last cnt off cap) (hb:Below w.heap.size w w'):RdrAt w' rb g bs last cnt off cap:=⟨h.blk.below hb,h.cap,h.ne,Nat.lt_of_lt_of_le h.lt hb.size,h.cell.below hb h.lt⟩
theorem fldE_short {bs:List Nat} {last cnt:Nat} (h:bs.length<3):fldE bs last cnt=.error 2:=by
 unfold fldE
 match bs,h with
 | [],_=>rfl
 | [_],_=>rfl
 | [_,_],_=>rfl
theorem ByteC.nil (w:World) (g off:Nat):ByteC w g off []:=fun j c h=>by simp at h
theorem KeepF.set {o:Option Nat} {w w':World} {b f:Nat} {v:Value} (h:KeepF o w w') (hb:o=some b):KeepF o w (w'.setCell ⟨b,f,none⟩ v):=⟨Nat.le_trans h.1 (by simp),fun k hk hn=>(Below.heap_setCell _ _ _ _ (fun e=>hn (by rw[hb,e]))).trans (h.2 k hk hn)⟩
def FldBad (v:Value) (rb:Nat) (w:World) (e:Ending) (w':World):Prop:=e=.panicked [{v:=v,recovered:=false}]∧Below rb w w'
def FldOk (rb g:Nat) (x:Fld) (rest:List Nat) (cnt:Nat) (w:World) (e:Ending) (w':World):Prop:=∃(dv:Value) (off cap:Nat),e=.returned (.agg #[(x.t:Int),dv])∧RdrAt w' rb g rest x.t (cnt+1) off cap∧w'.ownsRow (w.heap.size+1) 5 1 dv x.d.length (bytesL x.d)∧KeepF (some rb) w w'∧Below rb w w'
theorem field_short (rb g:Nat) (bs:List Nat) (last cnt off cap:Nat) (ea:Int→Addr) (w:World) (hE:Errs ea w) (h:RdrAt w rb g bs last cnt off cap) (hs:bs.length<3):Calls Tryz.prog 260 #[.pointer (some ⟨rb,0,none⟩)] w (FldBad (errV (ea 2)) rb w):=by
 have HT:=qq (fun W h1 h2=>take_no rb (some ⟨g,off,none⟩) bs.length cap 3 (last:Int) (cnt:Int) ea W h1 h2 hs);have HE:=qq hE;have HR:=qq h.blk;have hrb:=h.blk.lt;clear hE h hs;go_enter Tryz.func260,Tryz.ntmps260;go_wp2_with fail;refine(HT.out _ (HE.out.below (by go_grown)) (HR.out.below (by go_grown))).mono ?_;rintro e w1 ⟨rfl,hb1⟩
 have hb:=(below_then (show Below w.heap.size w _ from by go_grown) hb1).mono (Nat.le_of_lt hrb);go_wp2_with fail;exact⟨rfl,rfl,hb⟩
theorem field_bad (rb g:Nat) (t a b:Nat) (r:List Nat) (last cnt off cap:Nat) (ea:Int→Addr) (w0 w:World) (hE:Errs ea w0) (hb0:Below w0.heap.size w0 w) (h0:w0.heap.size≤rb) (h:RdrAt w rb g (t::a::b::r) last cnt off cap) (hb:t<256∧a<256∧b<256) (hl:r.length≤900) (hbad:t≤last∨200<a*256+b∨16≤cnt):Calls Tryz.prog 260 #[.pointer (some ⟨rb,0,none⟩)] w (FldBad (errV (ea 4)) rb w):=by
 have HT:=qq (fun W h1=>take_yes rb g off (r.length+3) cap 3 (last:Int) (cnt:Int) W h1 h.cap (by omega) (by omega));have HE:Hid (∀W,Below rb w W→Errs ea W):=qq (fun W hW=>hE.below (hb0.trans (hW.mono h0)));have HR:=qq h;have hgl:=h.lt;have hne:=h.ne;have hrb:=h.blk.lt;have hcp:=h.cap;dsimp only[List.length_cons] at hcp;have hor:=or_byte a b (by omega) hb.2.2
 have HC:Hid (∀W:World,Below w.heap.size w W→∀v,(W.setCell ⟨rb,0,none⟩ v).cell? ⟨g,off,none⟩=some (.int .u8 (t:Int))∧(W.setCell ⟨rb,0,none⟩ v).cell? ⟨g,off+1,none⟩=some (.int .u8 (a:Int))∧(W.setCell ⟨rb,0,none⟩ v).cell? ⟨g,off+2,none⟩=some (.int .u8 (b:Int))):=qq (fun W hW v=>by
   have hc:=(HR.out.cell.below hW hgl).set (b:=rb) (o:=0) (v:=v) hne;exact⟨hc 0 t rfl,hc 1 a rfl,hc 2 b rfl⟩)
 have HRC:Hid (∀W:World,Below w.heap.size w W→∀v off',(3<r.length+3→off'=off+3)→ByteC (W.setCell ⟨rb,0,none⟩ v) g off' r):=qq (fun W hW v off' ho=>by
   cases r with
   | nil=>exact ByteC.nil _ _ _
   | cons x y=>rw[ho (by simp)];exact((HR.out.cell.below hW hgl).drop 3).set (b:=rb) (o:=0) (v:=v) hne)
 clear hE h hb0 h0;go_enter Tryz.func260,Tryz.ntmps260;go_wp2_with fail;have hal:=(Below.refl w.heap.size w).alloc (Nat.le_refl _) (.cells #[.int .i64 0,.slice none 0 0] 184);refine(HT.out _ (HR.out.blk.below hal)).mono ?_;rintro e w1 ⟨rfl,off',ho,hw1⟩;obtain⟨c0,c1,c2⟩:=HC.out _ hal (.slice (some ⟨g,off',none⟩) (r.length+3 - 3) (cap - 3))
 have hrc:=HRC.out _ hal (.slice (some ⟨g,off',none⟩) (r.length+3 - 3) (cap - 3)) off' ho;have hk1:=((KeepF.of_below hal).set (o:=some rb) (f:=0) (v:=.slice (some ⟨g,off',none⟩) (r.length+3 - 3) (cap - 3)) rfl)
 have hb1:=(hal.mono (Nat.le_of_lt hrb)).setCell (p:=⟨rb,0,none⟩) (Nat.le_refl _) (.slice (some ⟨g,off',none⟩) (r.length+3 - 3) (cap - 3));have hK:=(HR.out.blk.below hal).set' 0 (by simp) (.slice (some ⟨g,off',none⟩) (r.length+3 - 3) (cap - 3))
 have hF:=(Blk.fresh w #[.int .i64 0,.slice none 0 0] 184 _ rfl).other (p:=⟨rb,0,none⟩) (by(try dsimp only);omega) (.slice (some ⟨g,off',none⟩) (r.length+3 - 3) (cap - 3));have hz1:w1.heap.size=w.heap.size+1:=by rw[hw1];simp
 rw[←hw1] at c0 c1 c2 hrc hk1 hb1 hK hF;rw[Nat.add_sub_cancel] at hK;have K1:=qq hK;have KF:=qq hF;have HKK:=qq hk1;have HBB:=qq hb1;have HRR:=qq hrc;have hgl1:g<w1.heap.size:=by omega
 have c4:w1.cell? ⟨3,0,none⟩=some (errV (ea 4)):=(HE.out w1 HBB.out).e4;clear hw1 hal hrc hk1 hb1 hK hF HT HC HRC HR;go_wp2_with fail;go_region;clear c0 c1 c2 hor;obtain⟨l1,q1,f1⟩:=K1.out;obtain⟨l2,q2,f2⟩:=KF.out;by_cases h1:t≤last
 · have e1:((t:Int)≤(last:Int)):=by omega
   go_wp2_with fail;exact⟨rfl,rfl,HBB.out.drew⟩
 have e1:¬((t:Int)≤(last:Int)):=by omega
 by_cases h2:200<a*256+b
 · have e2:(200:Int)<(a:Int)*256+(b:Int):=by omega
   go_wp2_with fail;exact⟨rfl,rfl,HBB.out.drew⟩
 have e2:¬(200:Int)<(a:Int)*256+(b:Int):=by omega
 have e3:(16:Int)≤(cnt:Int):=by omega
 clear hbad h1 h2;go_wp2_with fail;exact⟨rfl,rfl,HBB.out.drew⟩
theorem field_long (rb g:Nat) (t a b:Nat) (r:List Nat) (last cnt off cap:Nat) (ea:Int→Addr) (w0 w:World) (hE:Errs ea w0) (hb0:Below w0.heap.size w0 w) (h0:w0.heap.size≤rb) (h:RdrAt w rb g (t::a::b::r) last cnt off cap) (hb:t<256∧a<256∧b<256) (hl:r.length≤900) (hgood:¬(t≤last∨200<a*256+b∨16≤cnt)) (HSZ:r.length<a*256+b):Calls Tryz.prog 260 #[.pointer (some ⟨rb,0,none⟩)] w (FldBad (errV (ea 2)) rb w):=by
 have HT:=qq (fun W h1=>take_yes rb g off (r.length+3) cap 3 (last:Int) (cnt:Int) W h1 h.cap (by omega) (by omega));have HE:Hid (∀W,Below rb w W→Errs ea W):=qq (fun W hW=>hE.below (hb0.trans (hW.mono h0)));have HR:=qq h;have hgl:=h.lt;have hne:=h.ne;have hrb:=h.blk.lt;have hcp:=h.cap;dsimp only[List.length_cons] at hcp;have hor:=or_byte a b (by omega) hb.2.2
 have HC:Hid (∀W:World,Below w.heap.size w W→∀v,(W.setCell ⟨rb,0,none⟩ v).cell? ⟨g,off,none⟩=some (.int .u8 (t:Int))∧(W.setCell ⟨rb,0,none⟩ v).cell? ⟨g,off+1,none⟩=some (.int .u8 (a:Int))∧(W.setCell ⟨rb,0,none⟩ v).cell? ⟨g,off+2,none⟩=some (.int .u8 (b:Int))):=qq (fun W hW v=>by
   have hc:=(HR.out.cell.below hW hgl).set (b:=rb) (o:=0) (v:=v) hne;exact⟨hc 0 t rfl,hc 1 a rfl,hc 2 b rfl⟩)
 have HRC:Hid (∀W:World,Below w.heap.size w W→∀v off',(3<r.length+3→off'=off+3)→ByteC (W.setCell ⟨rb,0,none⟩ v) g off' r):=qq (fun W hW v off' ho=>by
   cases r with
   | nil=>exact ByteC.nil _ _ _
   | cons x y=>rw[ho (by simp)];exact((HR.out.cell.below hW hgl).drop 3).set (b:=rb) (o:=0) (v:=v) hne)
 clear hE h hb0 h0;go_enter Tryz.func260,Tryz.ntmps260;go_wp2_with fail;have hal:=(Below.refl w.heap.size w).alloc (Nat.le_refl _) (.cells #[.int .i64 0,.slice none 0 0] 184);refine(HT.out _ (HR.out.blk.below hal)).mono ?_;rintro e w1 ⟨rfl,off',ho,hw1⟩;obtain⟨c0,c1,c2⟩:=HC.out _ hal (.slice (some ⟨g,off',none⟩) (r.length+3 - 3) (cap - 3))
 have hrc:=HRC.out _ hal (.slice (some ⟨g,off',none⟩) (r.length+3 - 3) (cap - 3)) off' ho;have hk1:=((KeepF.of_below hal).set (o:=some rb) (f:=0) (v:=.slice (some ⟨g,off',none⟩) (r.length+3 - 3) (cap - 3)) rfl)
 have hb1:=(hal.mono (Nat.le_of_lt hrb)).setCell (p:=⟨rb,0,none⟩) (Nat.le_refl _) (.slice (some ⟨g,off',none⟩) (r.length+3 - 3) (cap - 3));have hK:=(HR.out.blk.below hal).set' 0 (by simp) (.slice (some ⟨g,off',none⟩) (r.length+3 - 3) (cap - 3))
 have hF:=(Blk.fresh w #[.int .i64 0,.slice none 0 0] 184 _ rfl).other (p:=⟨rb,0,none⟩) (by(try dsimp only);omega) (.slice (some ⟨g,off',none⟩) (r.length+3 - 3) (cap - 3));have hz1:w1.heap.size=w.heap.size+1:=by rw[hw1];simp
 rw[←hw1] at c0 c1 c2 hrc hk1 hb1 hK hF;rw[Nat.add_sub_cancel] at hK;have K1:=qq hK;have KF:=qq hF;have HKK:=qq hk1;have HBB:=qq hb1;have HRR:=qq hrc;have hgl1:g<w1.heap.size:=by omega
 have c4:w1.cell? ⟨3,0,none⟩=some (errV (ea 4)):=(HE.out w1 HBB.out).e4;clear hw1 hal hrc hk1 hb1 hK hF HT HC HRC HR;go_wp2_with fail;go_region;clear c0 c1 c2 hor;obtain⟨l1,q1,f1⟩:=K1.out;obtain⟨l2,q2,f2⟩:=KF.out;have e1:¬((t:Int)≤(last:Int)):=by omega
 have e2:¬(200:Int)<(a:Int)*256+(b:Int):=by omega
 have e3:¬(16:Int)≤(cnt:Int):=by omega
 have hc16:cnt<16:=by omega
 obtain⟨sz,hsz⟩:∃n,n=a*256+b:=⟨_,rfl⟩
 have es:(a:Int)*256+(b:Int)=(sz:Int):=by omega
 rw[es] at e2⊢;clear es;rw[←hsz] at hgood HSZ;have HK2:=qq (((K1.out.drew.set' 1 (by simp) (.int .i64 (t:Int))).set' 2 (by simp) (.int .i64 ((cnt:Int)+1))));have HB2:=qq (((HBB.out.drew).setCell (p:=⟨rb,1,none⟩) (Nat.le_refl _) (.int .i64 (t:Int))).setCell (p:=⟨rb,2,none⟩) (Nat.le_refl _) (.int .i64 ((cnt:Int)+1)))
 have HKB2:=qq (((KeepF.later HKK.out (Below.refl w1.heap.size w1).drew).set (o:=some rb) (f:=1) (v:=.int .i64 (t:Int)) rfl).set (o:=some rb) (f:=2) (v:=.int .i64 ((cnt:Int)+1)) rfl);have HRC2:=qq (((HRR.out.below (Below.refl w1.heap.size w1).drew hgl1).set (b:=rb) (o:=1) (v:=.int .i64 (t:Int)) hne).set (b:=rb) (o:=2) (v:=.int .i64 ((cnt:Int)+1)) hne)
 have HKF2:=qq ((KF.out.drew.other (p:=⟨rb,1,none⟩) (by(try dsimp only);omega) (.int .i64 (t:Int))).other (p:=⟨rb,2,none⟩) (by(try dsimp only);omega) (.int .i64 ((cnt:Int)+1)));have HS:=qq HSZ;have HSE:=qq hsz;have hs200:sz≤200:=by omega
 clear hb hgood HSZ hsz;go_wp2_with fail;refine(take_no rb (some ⟨g,off',none⟩) r.length (cap - 3) sz (t:Int) ((cnt:Int)+1) ea _ (HE.out _ HB2.out) HK2.out HS.out).mono ?_;rintro e w2 ⟨rfl,hb2⟩;have HB3:=qq (HB2.out.trans (hb2.mono (by have:=HK2.out.lt;omega)));clear l1 q1 f1 l2 q2 f2 hb2;go_wp2_with fail;exact⟨rfl,rfl,HB3.out⟩
theorem field_ok (rb g:Nat) (t a b:Nat) (r:List Nat) (last cnt off cap:Nat) (ea:Int→Addr) (w0 w:World) (hE:Errs ea w0) (hb0:Below w0.heap.size w0 w) (h0:w0.heap.size≤rb) (h:RdrAt w rb g (t::a::b::r) last cnt off cap) (hb:t<256∧a<256∧b<256) (hl:r.length≤900) (hgood:¬(t≤last∨200<a*256+b∨16≤cnt)) (HSZ:¬r.length<a*256+b):Calls Tryz.prog 260 #[.pointer (some ⟨rb,0,none⟩)] w (FldOk rb g ⟨t,r.take (a*256+b)⟩ (r.drop (a*256+b)) cnt w):=by
 have HT:=qq (fun W h1=>take_yes rb g off (r.length+3) cap 3 (last:Int) (cnt:Int) W h1 h.cap (by omega) (by omega));have HE:Hid (∀W,Below rb w W→Errs ea W):=qq (fun W hW=>hE.below (hb0.trans (hW.mono h0)));have HR:=qq h;have hgl:=h.lt;have hne:=h.ne;have hrb:=h.blk.lt;have hcp:=h.cap;dsimp only[List.length_cons] at hcp;have hor:=or_byte a b (by omega) hb.2.2
 have HC:Hid (∀W:World,Below w.heap.size w W→∀v,(W.setCell ⟨rb,0,none⟩ v).cell? ⟨g,off,none⟩=some (.int .u8 (t:Int))∧(W.setCell ⟨rb,0,none⟩ v).cell? ⟨g,off+1,none⟩=some (.int .u8 (a:Int))∧(W.setCell ⟨rb,0,none⟩ v).cell? ⟨g,off+2,none⟩=some (.int .u8 (b:Int))):=qq (fun W hW v=>by
   have hc:=(HR.out.cell.below hW hgl).set (b:=rb) (o:=0) (v:=v) hne;exact⟨hc 0 t rfl,hc 1 a rfl,hc 2 b rfl⟩)
 have HRC:Hid (∀W:World,Below w.heap.size w W→∀v off',(3<r.length+3→off'=off+3)→ByteC (W.setCell ⟨rb,0,none⟩ v) g off' r):=qq (fun W hW v off' ho=>by
   cases r with
   | nil=>exact ByteC.nil _ _ _
   | cons x y=>rw[ho (by simp)];exact((HR.out.cell.below hW hgl).drop 3).set (b:=rb) (o:=0) (v:=v) hne)
 clear hE h hb0 h0;go_enter Tryz.func260,Tryz.ntmps260;go_wp2_with fail;have hal:=(Below.refl w.heap.size w).alloc (Nat.le_refl _) (.cells #[.int .i64 0,.slice none 0 0] 184);refine(HT.out _ (HR.out.blk.below hal)).mono ?_;rintro e w1 ⟨rfl,off',ho,hw1⟩;obtain⟨c0,c1,c2⟩:=HC.out _ hal (.slice (some ⟨g,off',none⟩) (r.length+3 - 3) (cap - 3))
 have hrc:=HRC.out _ hal (.slice (some ⟨g,off',none⟩) (r.length+3 - 3) (cap - 3)) off' ho;have hk1:=((KeepF.of_below hal).set (o:=some rb) (f:=0) (v:=.slice (some ⟨g,off',none⟩) (r.length+3 - 3) (cap - 3)) rfl)
 have hb1:=(hal.mono (Nat.le_of_lt hrb)).setCell (p:=⟨rb,0,none⟩) (Nat.le_refl _) (.slice (some ⟨g,off',none⟩) (r.length+3 - 3) (cap - 3));have hK:=(HR.out.blk.below hal).set' 0 (by simp) (.slice (some ⟨g,off',none⟩) (r.length+3 - 3) (cap - 3))
 have hF:=(Blk.fresh w #[.int .i64 0,.slice none 0 0] 184 _ rfl).other (p:=⟨rb,0,none⟩) (by(try dsimp only);omega) (.slice (some ⟨g,off',none⟩) (r.length+3 - 3) (cap - 3));have hz1:w1.heap.size=w.heap.size+1:=by rw[hw1];simp
 rw[←hw1] at c0 c1 c2 hrc hk1 hb1 hK hF;rw[Nat.add_sub_cancel] at hK;have K1:=qq hK;have KF:=qq hF;have HKK:=qq hk1;have HBB:=qq hb1;have HRR:=qq hrc;have hgl1:g<w1.heap.size:=by omega
 have c4:w1.cell? ⟨3,0,none⟩=some (errV (ea 4)):=(HE.out w1 HBB.out).e4;clear hw1 hal hrc hk1 hb1 hK hF HT HC HRC HR;go_wp2_with fail;go_region;clear c0 c1 c2 hor;obtain⟨l1,q1,f1⟩:=K1.out;obtain⟨l2,q2,f2⟩:=KF.out;have e1:¬((t:Int)≤(last:Int)):=by omega
 have e2:¬(200:Int)<(a:Int)*256+(b:Int):=by omega
 have e3:¬(16:Int)≤(cnt:Int):=by omega
 have hc16:cnt<16:=by omega
 obtain⟨sz,hsz⟩:∃n,n=a*256+b:=⟨_,rfl⟩
 have es:(a:Int)*256+(b:Int)=(sz:Int):=by omega
 rw[es] at e2⊢;clear es;rw[←hsz] at hgood HSZ;have HK2:=qq (((K1.out.drew.set' 1 (by simp) (.int .i64 (t:Int))).set' 2 (by simp) (.int .i64 ((cnt:Int)+1))));have HB2:=qq (((HBB.out.drew).setCell (p:=⟨rb,1,none⟩) (Nat.le_refl _) (.int .i64 (t:Int))).setCell (p:=⟨rb,2,none⟩) (Nat.le_refl _) (.int .i64 ((cnt:Int)+1)))
 have HKB2:=qq (((KeepF.later HKK.out (Below.refl w1.heap.size w1).drew).set (o:=some rb) (f:=1) (v:=.int .i64 (t:Int)) rfl).set (o:=some rb) (f:=2) (v:=.int .i64 ((cnt:Int)+1)) rfl);have HRC2:=qq (((HRR.out.below (Below.refl w1.heap.size w1).drew hgl1).set (b:=rb) (o:=1) (v:=.int .i64 (t:Int)) hne).set (b:=rb) (o:=2) (v:=.int .i64 ((cnt:Int)+1)) hne)
 have HKF2:=qq ((KF.out.drew.other (p:=⟨rb,1,none⟩) (by(try dsimp only);omega) (.int .i64 (t:Int))).other (p:=⟨rb,2,none⟩) (by(try dsimp only);omega) (.int .i64 ((cnt:Int)+1)));have HS:=qq HSZ;have HSE:=qq hsz;have hs200:sz≤200:=by omega
 clear hb hgood HSZ hsz;go_wp2_with fail;have HSZ:=HS.out;refine(take_yes rb g off' r.length (cap - 3) sz (t:Int) ((cnt:Int)+1) _ HK2.out (by omega) (by omega) (by omega)).mono ?_;rintro e w2 ⟨rfl,off2,ho2,hw2⟩;obtain⟨nv,hnv⟩:∃v,v=Value.slice (some ⟨g,off2,none⟩) (r.length - sz) (cap - 3 - sz):=⟨_,rfl⟩
 rw[←hnv] at hw2;have hB3:=HB2.out.setCell (p:=⟨rb,0,none⟩) (Nat.le_refl _) nv;have hK3:=HK2.out.set' 0 (by simp) nv;have hKB3:=HKB2.out.set (o:=some rb) (f:=0) (v:=nv) rfl;have hRC3:=HRC2.out.set (b:=rb) (o:=0) (v:=nv) hne;have hKF3:=HKF2.out.other (p:=⟨rb,0,none⟩) (by(try dsimp only);omega) nv;rw[←hw2] at hB3 hK3 hKB3 hRC3 hKF3;have hgl2:g<w2.heap.size:=by rw[hw2];simpa using hgl1
 have HB3:=qq hB3;have HK3:=qq hK3;have HKB3:=qq hKB3;have HRC3:=qq hRC3;have HKF3:=qq hKF3;have HNV:=qq hnv;have hz2:w2.heap.size=w.heap.size+1:=by rw[hw2];simp;omega
 clear hw2 hnv hB3 hK3 hKB3 hRC3 hKF3 HB2 HK2 HKB2 HRC2 HKF2 l1 q1 f1 l2 q2 f2 K1 KF HKK HBB HRR;go_wp2_with fail;refine(cloneB_of g off' sz (r.take sz) w2 (by rw[List.length_take];omega) (by omega) (HRC3.out.take sz) hgl2).mono ?_;rintro e w3 ⟨dv,rfl,hown,hb3⟩;obtain⟨da,dc,rfl⟩:=row_slice hown
 have HKF4:=qq (HKF3.out.below hb3);have HK4:=qq (HK3.out.below hb3);have HRC4:=qq (HRC3.out.below hb3 hgl2);have HB4:=qq (HB3.out.trans (hb3.mono (by have:=HK3.out.lt;omega)));have HKB4:=qq (HKB3.out.later hb3);have HO4:=qq hown;have hz3:=hb3.size;obtain⟨l3,q3,f3⟩:=HKF4.out;clear hown hb3 HKF3 HK3 HRC3 HB3 HKB3;go_wp2_with fail
 have hV:=((HKF4.out.set' 0 (by simp) (.int .i64 (t:Int))).set' 1 (by simp) (.slice da sz dc))
 have hVq:=hV.cell;have hVf:=hV.free;refine bodyPost_ret (v:=.agg #[(t:Int),.slice da sz dc]) (by simp[results,Tryz.results260,go_sem,hVq,hVf]) rfl ?_;unfold FldOk;rw[←HSE.out];dsimp only;refine⟨_,off2,cap - 3 - sz,rfl,?_,?_,?_,?_⟩
 · have hK5:=(HK4.out.other (p:=⟨w.heap.size,0,none⟩) (by(try dsimp only);omega) (.int .i64 (t:Int))).other (p:=⟨w.heap.size,1,none⟩) (by(try dsimp only);omega) (.slice da sz dc);have hR5:=(HRC4.out.set (b:=w.heap.size) (o:=0) (v:=.int .i64 (t:Int)) (by omega)).set (b:=w.heap.size) (o:=1) (v:=.slice da sz dc) (by omega);have hld:(r.drop sz).length=r.length - sz:=List.length_drop
   refine⟨by rw[hld,←HNV.out];exact hK5,by rw[hld];omega,hne,by simp;omega,?_⟩;by_cases hlt:sz<r.length
   · rw[ho2 hlt];exact hR5.drop sz
   · rw[List.drop_eq_nil_of_le (by omega)];exact ByteC.nil _ _ _
 · have hln:(r.take sz).length=sz:=by rw[List.length_take];omega
   rw[hln,←hz2];refine row_heap HO4.out (fun k hk=> ?_);have:=(HO4.out.lt k hk).1;rw[Below.heap_setCell _ _ _ _ (by(try dsimp only);omega),Below.heap_setCell _ _ _ _ (by(try dsimp only);omega)]
 · exact⟨by simpa using HKB4.out.1,fun k hk hn=>by rw[Below.heap_setCell _ _ _ _ (by(try dsimp only);omega),Below.heap_setCell _ _ _ _ (by(try dsimp only);omega)];exact HKB4.out.2 k hk hn⟩
 · exact(HB4.out.setCell (p:=⟨w.heap.size,0,none⟩) (Nat.le_of_lt hrb) _).setCell (p:=⟨w.heap.size,1,none⟩) (Nat.le_of_lt hrb) _
theorem catch_idle_fl (d x e : Addr) (w : World) (hd : w.cell? d = some (.bool true)) :
    CallsD Tryz.prog 291 #[.pointer (some d),.pointer (some x),.pointer (some e)] .returning w fun en u' w'=>en=.returned (.tuple #[])∧u'=.returning∧w'=w:=by
 refine callsD_of_wpS Tryz.func291 rfl fun c₀ cs hu=> ?_
 apply wpS_seq;apply wpS_region;simp[wpOpsS,go_sem,recoverD,hu,Tryz.ntmps291,Exit.thenS];apply wpS_seq;apply wpS_region;simp[wpOpsS,go_sem,hd,Exit.thenS];refine wpS_cond (t:=false) (by simp[Act.eval,Array.replicate]) ?_;simp only[Bool.false_eq_true,if_false];refine wpS_of_wp (wp_skip ?_)
 cases c₀
 simp_all [bodyPostS,results,Tryz.results291]
theorem catch_took_fl (D X E : Nat) (v0 : Value) (n : Int) (hn : 1 ≤ n ∧ n ≤ 14) (ea : Int → Addr) (older : List PanicEntry) (w : World) (hd : Blk w D #[.bool false]) (hx : Blk w X #[v0]) (hz : Blk w E #[.nilIface]) (hne : X ≠ E) (he : Errs ea w) :
    CallsD Tryz.prog 291 #[.pointer (some ⟨D,0,none⟩),.pointer (some ⟨X,0,none⟩),.pointer (some ⟨E,0,none⟩)] (.panicking ({v:=errV (ea n),recovered:=false}::older)) w fun en u' w'=>
     en=.returned (.tuple #[])∧u'=.panicking ({v:=errV (ea n),recovered:=true}::older)∧∃w1,Below w.heap.size w w1∧w'=(w1.setCell ⟨X,0,none⟩ (.slice none 0 0)).setCell ⟨E,0,none⟩ (errV (ea n)):=by
 have HT:=qq (fun W hW=>told_of n hn ea W hW);have HE:=qq he;have hd0:w.cell? ⟨D,0,none⟩=some (.bool false):=hd.cell 0;have HX:=qq hx;have HZ:=qq hz;have hne2:E≠X:=fun e=>hne e.symm
 clear he hd hx hz hn;refine callsD_of_wpS Tryz.func291 rfl fun c₀ cs hu=> ?_
 apply wpS_seq;apply wpS_region;simp[wpOpsS,go_sem,recoverD,hu,Tryz.ntmps291,Exit.thenS];apply wpS_seq;apply wpS_region;simp[wpOpsS,go_sem,hd0,Exit.thenS];refine wpS_cond (t:=true) (by simp[Act.eval,Array.replicate]) ?_;simp only[if_true];refine wpS_of_wp ?_
 go_wp2_with (go_at_call 210;refine(HT.out _ HE.out).mono ?_;rintro e w1 ⟨rfl,hb1⟩;have HX1:=HX.out.below hb1;have HZ1:=HZ.out.below hb1;have x0:w1.cell? ⟨X,0,none⟩=some v0:=HX1.cell 0;have x1:=HX1.free 0;have z0:w1.cell? ⟨E,0,none⟩=some .nilIface:=HZ1.cell 0;have z1:=HZ1.free 0;clear HX1 HZ1);simp[bodyPostS,results,Tryz.results291];exact⟨w1,hb1,rfl⟩
theorem try_gives_split (p : Addr) (Rl : Value → World → Prop) (w : World) (h : ∀ W, Below w.heap.size w W → w.heap.size + 3 ≤ W.heap.size → Calls Tryz.prog 259 #[.pointer (some p)] W (fun e w' => ∃ a n c, e = .returned (.slice a n c) ∧ Rl (.slice a n c) w' ∧ Below W.heap.size W w'))
    (hR:∀v (W W':World),Rl v W→W.heap.size≤W'.heap.size→(∀k,k<w.heap.size∨w.heap.size+3≤k→W'.heap[k]? =W.heap[k]?)→Rl v W'):
    Calls Tryz.prog 258 #[.func (.func 259) #[] #[.pointer (some p)]] w (fun e w'=>∃a n c,e=.returned (.tuple #[.slice a n c,.nilIface])∧Rl (.slice a n c) w'∧Below w.heap.size w w'):=by
 have hmf:∀(fn:Fn) (first cap:Array Value) (w:World),(Instr.makeFunc fn first cap).run Tryz.prog w=.ok (.func fn first cap) w:=fun _ _ _ _=>rfl
 have H:=qq h;have HRL:=qq hR;clear h hR;go_enter_defers Tryz.func258,Tryz.ntmps258;go_wp2_with fail;refine(H.out _ (by go_grown) (by simp)).mono ?_;rintro e w1 ⟨va,vn,vc,rfl,hrl,hb1⟩;have HX:=(((Blk.fresh w #[.slice none 0 0] 179 _ rfl).below (by go_grown)).below hb1:Blk w1 w.heap.size _)
 have HE:=(((Blk.fresh (w.alloc (.cells #[.slice none 0 0] 179)) #[.nilIface] 26 (w.heap.size+1) (by simp)).below (by go_grown)).below hb1:Blk w1 (w.heap.size+1) _)
 have HD:=((Blk.fresh ((w.alloc (.cells #[.slice none 0 0] 179)).alloc (.cells #[.nilIface] 26)) #[.bool false] 4 (w.heap.size+1+1) (by simp)).below hb1:Blk w1 (w.heap.size+1+1) _)
 have x0:w1.cell? ⟨w.heap.size,0,none⟩=some (.slice none 0 0):=HX.cell 0;have x1:=HX.free 0;have e0:w1.cell? ⟨w.heap.size+1,0,none⟩=some .nilIface:=HE.cell 0;have e1:=HE.free 0;have d0:w1.cell? ⟨w.heap.size+1+1,0,none⟩=some (.bool false):=HD.cell 0;have d1:=HD.free 0;clear HX HE HD;have HB:Below w.heap.size w w1:=below_then (by go_grown) hb1;have HRR:=qq hrl;clear hrl;go_wp2_with fail
 refine leaves_cons (f:=291) (args:= #[.pointer (some ⟨w.heap.size+1+1,0,none⟩),.pointer (some ⟨w.heap.size,0,none⟩),.pointer (some ⟨w.heap.size+1,0,none⟩)]) (by simp) (by simp[go_sem]) ?_;refine(catch_idle_fl _ _ _ _ (by simp[go_sem,d0,x0,e0])).mono ?_;rintro e u' w'' ⟨rfl,rfl,rfl⟩;simp[Leaves,settle,results,Tryz.results258,go_sem,d0,x0,e0,d1,x1,e1]
 refine⟨va,vn,vc,⟨rfl,rfl,rfl⟩,HRL.out _ _ _ HRR.out (by simp) (fun k hk=> ?_),(((HB.setCell (p:=⟨w.heap.size,0,none⟩) (Nat.le_refl _) _).setCell (p:=⟨w.heap.size+1+1,0,none⟩) (by dsimp only;omega) _).setCell (p:=⟨w.heap.size,0,none⟩) (Nat.le_refl _) _).setCell (p:=⟨w.heap.size+1,0,none⟩) (by dsimp only;omega) _⟩
 rw[Below.heap_setCell _ _ _ _ (by(try dsimp only);omega),Below.heap_setCell _ _ _ _ (by(try dsimp only);omega),Below.heap_setCell _ _ _ _ (by(try dsimp only);omega),Below.heap_setCell _ _ _ _ (by(try dsimp only);omega)]
theorem try_dies_split (p : Addr) (n : Int) (hn : 1 ≤ n ∧ n ≤ 14) (ea : Int → Addr) (w : World) (he : Errs ea w) (h : ∀ W, Below w.heap.size w W → Calls Tryz.prog 259 #[.pointer (some p)] W (Fails (errV (ea n)) W)) :
    Calls Tryz.prog 258 #[.func (.func 259) #[] #[.pointer (some p)]] w (Makes (.tuple #[.slice none 0 0,errV (ea n)]) w):=by
 have hmf:∀(fn:Fn) (first cap:Array Value) (w:World),(Instr.makeFunc fn first cap).run Tryz.prog w=.ok (.func fn first cap) w:=fun _ _ _ _=>rfl
 have H:=qq h;have HR:=qq he;clear h he;go_enter_defers Tryz.func258,Tryz.ntmps258;go_wp2_with fail;refine(H.out _ (by go_grown)).mono ?_;rintro e w1 ⟨rfl,hb1⟩;have HB:Below w.heap.size w w1:=below_then (by go_grown) hb1;have HX:=(((Blk.fresh w #[.slice none 0 0] 179 _ rfl).below (by go_grown)).below hb1:Blk w1 w.heap.size _)
 have HE:=(((Blk.fresh (w.alloc (.cells #[.slice none 0 0] 179)) #[.nilIface] 26 (w.heap.size+1) (by simp)).below (by go_grown)).below hb1:Blk w1 (w.heap.size+1) _)
 have HD:=((Blk.fresh ((w.alloc (.cells #[.slice none 0 0] 179)).alloc (.cells #[.nilIface] 26)) #[.bool false] 4 (w.heap.size+1+1) (by simp)).below hb1:Blk w1 (w.heap.size+1+1) _)
 have HER:=HR.out.below HB;refine leaves_cons (f:=291) (args:= #[.pointer (some ⟨w.heap.size+1+1,0,none⟩),.pointer (some ⟨w.heap.size,0,none⟩),.pointer (some ⟨w.heap.size+1,0,none⟩)]) (by simp) (by simp[go_sem]) ?_;refine(catch_took_fl _ _ _ _ n hn ea _ _ HD HX HE (by omega) HER).mono ?_;rintro e u' w'' ⟨rfl,rfl,w2,hb2,rfl⟩;have x0:w1.cell? ⟨w.heap.size,0,none⟩=some (.slice none 0 0):=HX.cell 0
 have hx2:=HX.below hb2;have he2:=HE.below hb2;have x2:w2.cell? ⟨w.heap.size,0,none⟩=some (.slice none 0 0):=hx2.cell 0;have e2:w2.cell? ⟨w.heap.size+1,0,none⟩=some .nilIface:=he2.cell 0;have x3:=hx2.free 0;have e3:=he2.free 0;simp[Leaves,settle,results,Tryz.results258,go_sem,x2,e2,x3,e3]
 exact⟨rfl,((HB.trans (hb2.mono HB.size)).setCell (p:=⟨w.heap.size,0,none⟩) (Nat.le_refl _) _).setCell (p:=⟨w.heap.size+1,0,none⟩) (by dsimp only;omega) _⟩
theorem infoFld:(Tryz.prog.info? 184).map (fun i=>(i.zero,i.size,i.bytes))=some (some (.agg #[.int .i64 0,.slice none 0 0]),2,32):=by kernel_rfl
def fldL (x:Fld) (dv:Value):List Value:=[.int .i64 (x.t:Int),dv]
def fldsL (xs:List Fld) (vs:List Value):List Value:=(xs.zip vs).flatMap fun p=>fldL p.1 p.2
structure FldsAt (B:Nat) (v:Value) (xs:List Fld) (vs:List Value) (w:World):Prop where
 len:vs.length=xs.length
 row:w.ownsRow B 184 2 v xs.length (fldsL xs vs)
 data:∀(i:Nat) (x:Fld) (dv:Value),xs[i]? =some x→vs[i]? =some dv→w.ownsRow B 5 1 dv x.d.length (bytesL x.d)
 apart:∀dv∈vs,∀k,dv.ownBlock=some k→v.ownBlock≠some k
theorem FldsAt.nil (B:Nat) (w:World):FldsAt B (.slice none 0 0) [] [] w:=⟨rfl,World.ownsRow_nil _ _ _ _,fun i x dv h=>by simp at h,fun x h=>by cases h⟩
theorem FldsAt.heap {B:Nat} {v:Value} {xs:List Fld} {vs:List Value} {w w':World} (h:FldsAt B v xs vs w) (he:∀k,B≤k→k<w.heap.size→w'.heap[k]? =w.heap[k]?):FldsAt B v xs vs w':=
 ⟨h.len,row_heap h.row (fun k hk=>he k (h.row.lt k hk).1 (h.row.lt k hk).2),fun i x dv h1 h2=>row_heap (h.data i x dv h1 h2) (fun k hk=>he k ((h.data i x dv h1 h2).lt k hk).1 ((h.data i x dv h1 h2).lt k hk).2),h.apart⟩
theorem FldsAt.snoc {B : Nat} {v v2 : Value} {xs : List Fld} {vs : List Value} {w w2 : World} {x : Fld} {dv : Value} (h : FldsAt B v xs vs w) (hx : w.ownsRow B 5 1 dv x.d.length (bytesL x.d)) (hax : ∀ k, dv.ownBlock = some k → v.ownBlock ≠ some k)
    (hr:w2.ownsRow B 184 2 v2 (xs.length+1) (fldsL xs vs ++fldL x dv)) (hg:w.grownBy w2 v.ownBlock) (hat:v2.ownBlock=v.ownBlock∨v2.ownBlock=some w.heap.size):FldsAt B v2 (xs ++ [x]) (vs ++ [dv]) w2:=by
 have keep:∀(u:Value) (n:Nat) (l:List Value),w.ownsRow B 5 1 u n l→(∀k,u.ownBlock=some k→v.ownBlock≠some k)→w2.ownsRow B 5 1 u n l:=fun u n l h1 h2=>
  row_heap h1 (fun k hk=>hg.block k (h1.lt k hk).2 (fun e=>h2 k hk e.symm))
 have apart2:∀(u:Value) (n:Nat) (l:List Value),w.ownsRow B 5 1 u n l→(∀k,u.ownBlock=some k→v.ownBlock≠some k)→∀k,u.ownBlock=some k→v2.ownBlock≠some k:=fun u n l h1 h2 k hk e=>by
  rcases hat with h3 | h3
  · exact h2 k hk (by rw[←h3];exact e)
  · have:=(h1.lt k hk).2;rw[h3] at e;injection e with e
    omega
 have hl:=h.len;refine⟨by simp[h.len],?_,fun i y u h1 h2=> ?_,fun u hu k hk=> ?_⟩
 · rw[List.length_append];unfold fldsL at hr⊢;rw[List.zip_append h.len.symm,List.flatMap_append];simpa using hr
 · by_cases hi:i<xs.length
   · rw[List.getElem?_append_left hi] at h1;rw[List.getElem?_append_left (by omega)] at h2;exact keep _ _ _ (h.data i y u h1 h2) (h.apart u (List.mem_of_getElem? h2))
   · rw[List.getElem?_append_right (by omega)] at h1;rw[List.getElem?_append_right (by omega),hl] at h2;have e0:i - xs.length=0:=by
      rcases Nat.eq_zero_or_pos (i - xs.length) with e | e
      · exact e
      · rw[List.getElem?_eq_none (by simp;omega)] at h1;cases h1
     rw[e0] at h1 h2;simp at h1 h2;subst h1 h2;exact keep _ _ _ hx hax
 · rcases List.mem_append.1 hu with hu | hu
   · obtain⟨i,hi,rfl⟩:=List.getElem_of_mem hu;exact apart2 _ _ _ (h.data i xs[i] vs[i] (List.getElem?_eq_getElem (by omega)) (List.getElem?_eq_getElem hi)) (h.apart _ hu) k hk
   · obtain rfl:=List.mem_singleton.1 hu;exact apart2 _ _ _ hx hax k hk
def FldC (w:World) (g o:Nat) (x:Fld):Prop:=∃(da:Option Addr) (dc:Nat),w.cell? ⟨g,o,none⟩=some (.int .i64 (x.t:Int))∧w.cell? ⟨g,o+1,none⟩=some (.slice da x.d.length dc)∧∀(j c:Nat),x.d[j]? =some c→∃gd,da=some ⟨gd,0,none⟩∧gd<w.heap.size∧w.cell? ⟨gd,j,none⟩=some (.int .u8 (c:Int))
def ReadFlds (w:World) (v:Value) (xs:List Fld):Prop:=∃a cap,v=.slice a xs.length cap∧∀(k:Nat) (x:Fld),xs[k]? =some x→∃g,a=some ⟨g,0,none⟩∧g<w.heap.size∧FldC w g (k*2) x
theorem ReadFlds.below {w w':World} {v:Value} {xs:List Fld} (h:ReadFlds w v xs) (hb:Below w.heap.size w w'):ReadFlds w' v xs:=by
 obtain⟨a,cap,rfl,hr⟩:=h;refine⟨a,cap,rfl,fun k x hk=> ?_⟩;obtain⟨g,rfl,hg,da,dc,h0,h1,h2⟩:=hr k x hk;refine⟨g,rfl,Nat.lt_of_lt_of_le hg hb.size,da,dc,(hb.cell (p:=⟨g,k*2,none⟩) hg).trans h0,(hb.cell (p:=⟨g,k*2+1,none⟩) hg).trans h1,fun j c hj=> ?_⟩;obtain⟨gd,rfl,hgd,hc⟩:=h2 j c hj;exact⟨gd,rfl,Nat.lt_of_lt_of_le hgd hb.size,(hb.cell (p:=⟨gd,j,none⟩) hgd).trans hc⟩
theorem read_flds {B:Nat} {v:Value} {xs:List Fld} {vs:List Value} {w:World} (h:FldsAt B v xs vs w):ReadFlds w v xs:=by
 obtain⟨a,cap,hv⟩:=row_slice h.row;subst hv;refine⟨a,cap,rfl,fun k x hk=> ?_⟩;obtain⟨hlt,he⟩:=List.getElem?_eq_some_iff.1 hk;obtain⟨dv,hdv⟩:∃dv,vs[k]? =some dv:=⟨_,List.getElem?_eq_getElem (by rw[h.len];exact hlt)⟩
 obtain⟨g,cap',hv,_,_,hg,hc,_⟩:=row_form h.row (by omega);simp only[Value.slice.injEq,true_and] at hv;obtain⟨rfl,rfl⟩:=hv;have hzl:k<(xs.zip vs).length:=by rw[List.length_zip,h.len];omega
 have hat:=fun i hi=>flat_at (fun p:Fld×Value=>fldL p.1 p.2) 2 (fun _=>rfl) (xs.zip vs) k i hzl hi
 have hz:(xs.zip vs)[k]=(x,dv):=by
  obtain⟨hlv,hev⟩:=List.getElem?_eq_some_iff.1 hdv;simp[he,hev]
 have hd:=h.data k x dv hk hdv;obtain⟨da,dc,hdv2⟩:=row_slice hd;subst hdv2;refine⟨g,rfl,hg,da,dc,?_,?_,fun j c hj=> ?_⟩
 · have:=hc _ _ (hat 0 (by decide));rw[hz] at this;exact this
 · have:=hc _ _ (hat 1 (by decide));rw[hz] at this;exact this
 · obtain⟨hjl,hje⟩:=List.getElem?_eq_some_iff.1 hj;obtain⟨gd,cap2,hv2,_,_,hgd,hcd,_⟩:=row_form hd (by omega);simp only[Value.slice.injEq,true_and] at hv2;obtain⟨rfl,rfl⟩:=hv2;refine⟨gd,rfl,hgd,hcd j _ ?_⟩;unfold bytesL;rw[List.getElem?_map,hj];rfl
theorem row_mono {w:World} {B B':Nat} {T:TypeId} {size:Nat} {v:Value} {n:Nat} {xs:List Value} (h:w.ownsRow B' T size v n xs) (hb:B≤B'):w.ownsRow B T size v n xs:=by
 refine⟨h.1,?_⟩;rcases h.2 with h | ⟨g,cap,cur,h1,h2,h3,h4⟩
 · exact .inl h
 · exact .inr ⟨g,cap,cur,h1,Nat.le_trans hb h2,h3,h4⟩
theorem field_of (rb g : Nat) (bs : List Nat) (last cnt off cap : Nat) (ea : Int → Addr) (w0 w : World) (hE : Errs ea w0) (hb0 : Below w0.heap.size w0 w) (h0 : w0.heap.size ≤ rb) (h : RdrAt w rb g bs last cnt off cap) (hb : ∀ c ∈ bs, c < 256) (hl : bs.length ≤ 900) :
    Calls Tryz.prog 260 #[.pointer (some ⟨rb,0,none⟩)] w (fun e w'=>(∀n,fldE bs last cnt=.error n→FldBad (errV (ea n)) rb w e w')∧∀x r,fldE bs last cnt=.ok (x,r)→FldOk rb g x r cnt w e w'):=by
 match bs,h,hb,hl with
 | [],h,_,_=>exact(field_short rb g [] last cnt off cap ea w (hE.below hb0) h (by simp)).mono fun e w' he=>⟨fun n hn=>by rw[fldE_short (by simp)] at hn;injection hn with hn;subst hn;exact he,fun x r hn=>by rw[fldE_short (by simp)] at hn;cases hn⟩
 | [t],h,_,_=>exact(field_short rb g [t] last cnt off cap ea w (hE.below hb0) h (by simp)).mono fun e w' he=>⟨fun n hn=>by rw[fldE_short (by simp)] at hn;injection hn with hn;subst hn;exact he,fun x r hn=>by rw[fldE_short (by simp)] at hn;cases hn⟩
 | [t,a],h,_,_=>exact(field_short rb g [t,a] last cnt off cap ea w (hE.below hb0) h (by simp)).mono fun e w' he=>⟨fun n hn=>by rw[fldE_short (by simp)] at hn;injection hn with hn;subst hn;exact he,fun x r hn=>by rw[fldE_short (by simp)] at hn;cases hn⟩
 | t::a::b::r,h,hb,hl=>
  have hb3:t<256∧a<256∧b<256:=⟨hb t (by simp),hb a (by simp),hb b (by simp)⟩
  have hr:r.length≤900:=by simp only[List.length_cons] at hl;omega
  have hf:fldE (t::a::b::r) last cnt=if t≤last∨200<a*256+b∨16≤cnt then .error 4 else if r.length<a*256+b then .error 2 else .ok (⟨t,r.take (a*256+b)⟩,r.drop (a*256+b)):=rfl
  rw[hf];by_cases h1:t≤last∨200<a*256+b∨16≤cnt
  · rw[if_pos h1];exact(field_bad rb g t a b r last cnt off cap ea w0 w hE hb0 h0 h hb3 hr h1).mono fun e w' he=>⟨fun n hn=>by injection hn with hn;subst hn;exact he,fun x r hn=>by cases hn⟩
  · rw[if_neg h1];by_cases h2:r.length<a*256+b
    · rw[if_pos h2];exact(field_long rb g t a b r last cnt off cap ea w0 w hE hb0 h0 h hb3 hr h1 h2).mono fun e w' he=>⟨fun n hn=>by injection hn with hn;subst hn;exact he,fun x r hn=>by cases hn⟩
    · rw[if_neg h2];exact(field_ok rb g t a b r last cnt off cap ea w0 w hE hb0 h0 h hb3 hr h1 h2).mono fun e w' he=>⟨fun n hn=>(by cases hn),fun x r2 hn=>by injection hn with hn;injection hn with hn1 hn2;subst hn1 hn2;exact he⟩
def joinE (pre:List Fld):Except Int (List Fld)→Except Int (List Fld)
 | .error e=> .error e
 | .ok ys=> .ok (pre ++ys)
def stepE (cnt:Nat):Except Int (Fld×List Nat)→Except Int (List Fld)
 | .error e=> .error e
 | .ok (x,rest)=>joinE [x] (splitE rest.length rest x.t (cnt+1))
theorem splitE_step {bs:List Nat} {last cnt:Nat} (h:bs≠[]):splitE bs.length bs last cnt=stepE cnt (fldE bs last cnt):=by
 obtain⟨n,hn⟩:∃n,bs.length=n+1:=⟨bs.length - 1,by have:=List.length_pos_iff.2 h;omega⟩
 rw[hn]
 conv=>lhs;unfold splitE
 rw[if_neg h]
 cases hx:fldE bs last cnt with
 | error e=>rfl
 | ok p=>
  obtain⟨x,rest⟩:=p;have:=(fldE_len hx).1;simp only[stepE];rw[splitE_fuel n rest.length rest x.t (cnt+1) (by omega) (Nat.le_refl _)]
  cases splitE rest.length rest x.t (cnt+1)<;>rfl
theorem joinE_join (p q:List Fld) (r:Except Int (List Fld)):joinE p (joinE q r)=joinE (p ++q) r:=by cases r<;>simp[joinE]
def lenAt:Option Value→Nat
 | some (.slice _ n _)=>n
 | _=>0
def SplitEnds (ea:Int→Addr) (bs:List Nat) (w:World) (e:Ending) (w':World):Prop:=
 (∀xs,splitE bs.length bs 0 0=.ok xs→∃a n c vs,e=.returned (.slice a n c)∧FldsAt w.heap.size (.slice a n c) xs vs w'∧Below w.heap.size w w')∧∀n,splitE bs.length bs 0 0=.error n→e=.panicked [{v:=errV (ea n),recovered:=false}]∧Below w.heap.size w w'
theorem split1_nil (p:Nat) (a:Option Addr) (cap:Nat) (ea:Int→Addr) (w:World) (hp:Blk w p #[.slice a 0 cap]):Calls Tryz.prog 259 #[.pointer (some ⟨p,0,none⟩)] w (SplitEnds ea [] w):=by
 obtain⟨l,q,f⟩:=hp;go_enter Tryz.func259,Tryz.ntmps259;go_wp2_with fail;go_loopw [3] (fun u wr=>u=.slice none 0 0∧wr=w.alloc (.cells #[.slice a 0 cap,.int .i64 0,.int .i64 0] 341)) (fun _ _=>0)
 case atStart=>exact⟨rfl,rfl⟩
 case round=>
  obtain⟨rfl,rfl⟩:=hrel;go_wp2_with fail;go_ret;exact⟨fun xs h=>⟨none,0,0,[],rfl,by injection h with h;subst h;exact FldsAt.nil _ _,by go_grown⟩,fun n h=>by cases h⟩
theorem split1_some (p g off : Nat) (bs : List Nat) (cap : Nat) (ea : Int → Addr) (w0 w : World) (hE : Errs ea w0) (hb0 : Below w0.heap.size w0 w) (hp : Blk w p #[.slice (some ⟨g, off, none⟩) bs.length cap]) (hc : bs.length ≤ cap) (hB : ∀ c ∈ bs, c < 256) (hg : g < w.heap.size) (hr : ByteC w g off bs) (hl : bs.length ≤ 900) :
    Calls Tryz.prog 259 #[.pointer (some ⟨p,0,none⟩)] w (SplitEnds ea bs w):=by
 have HF:=qq (fun rest last cnt off cap W h1 h2 h3 h4=>field_of w.heap.size g rest last cnt off cap ea w0 W hE h1 hb0.size h2 h3 h4);have HB0:=qq hb0;obtain⟨i0,ei,ez,es,eb⟩:=info_parts infoFld
 have HR0:Hid (RdrAt (w.alloc (.cells #[.slice (some ⟨g,off,none⟩) bs.length cap,.int .i64 0,.int .i64 0] 341)) w.heap.size g bs 0 0 off cap):=qq ⟨Blk.fresh _ _ _ _ rfl,hc,by omega,by simp;omega,hr.below ((Below.refl _ _).alloc (Nat.le_refl _) _) hg⟩;have HBS:=qq hB;obtain⟨l,q,f⟩:=hp;obtain⟨N,hN⟩:∃n,n=bs.length:=⟨_,rfl⟩
 have HNN:=qq hN;rw[←hN] at q hl HR0;clear hE hb0 hc hB hr hN;go_enter Tryz.func259,Tryz.ntmps259;go_wp2_with fail
 go_loopw [3] (fun u wr=>∃(pre:List Fld) (vs:List Value) (rest:List Nat) (last cnt off2 cap2:Nat),Hid (splitE bs.length bs 0 0=joinE pre (splitE rest.length rest last cnt))∧Hid (RdrAt wr w.heap.size g rest last cnt off2 cap2)∧Hid (FldsAt (w.heap.size+1) u pre vs wr)∧Hid (Below w.heap.size w wr)∧Hid (∀c∈rest,c<256)∧rest.length≤N∧pre.length≤cnt∧cnt≤16) (fun _ wr=>lenAt (wr.cell? ⟨w.heap.size,0,none⟩))
 case atStart=>exact⟨[],[],bs,0,0,off,cap,qq (by cases splitE bs.length bs 0 0<;>rfl),HR0,qq (FldsAt.nil _ _),qq (by go_grown),HBS,by have:=HNN.out;omega,by simp,by omega⟩
 case round=>
  obtain⟨pre,vs,rest,last,cnt,off2,cap2,HS,HR,HFL,HBW,HBR,hrl,hpc,hc16⟩:=hrel;obtain⟨l1,q1,f1⟩:=HR.out.blk;have hm0:lenAt (wr.cell? ⟨w.heap.size,0,none⟩)=rest.length:=by rw[q1 0];rfl
  have HM0:=qq hm0;obtain⟨ua,uc,hu⟩:=row_slice HFL.out.row;subst hu;obtain⟨np,hnp⟩:∃n,n=pre.length:=⟨_,rfl⟩
  have HNP:=qq hnp;rw[←hnp] at hpc HFL;rw[←hnp];obtain⟨nr,hnr⟩:∃n,n=rest.length:=⟨_,rfl⟩
  have HNR:=qq hnr;rw[←hnr] at hrl q1;clear hm0 hnp hnr;by_cases hne:nr=0
  · have hrest:rest=[]:=List.length_eq_zero_iff.1 (by rw[←HNR.out];exact hne);subst hne;have HSE:Hid (splitE bs.length bs 0 0=.ok pre):=qq (by have:=HS.out;rw[hrest] at this;simpa[splitE,joinE] using this);clear hrest;go_wp2_with fail;go_ret
    exact⟨fun xs h=>⟨_,_,_,vs,rfl,by rw[HSE.out] at h;injection h with h;subst h;exact⟨HFL.out.len,row_mono (by have:=HFL.out.row;rw[←HNP.out] at *;exact this) (Nat.le_succ _),fun i x dv h1 h2=>row_mono (HFL.out.data i x dv h1 h2) (Nat.le_succ _),HFL.out.apart⟩,HBW.out⟩,fun n h=>by rw[HSE.out] at h;cases h⟩
  · have hpos:(0:Int)<(nr:Int):=by omega
    have hrne:rest≠[]:=fun e=>hne (by rw[HNR.out,e];rfl)
    have HST:=qq (splitE_step (last:=last) (cnt:=cnt) hrne);have HFW:=qq (HF.out rest last cnt off2 cap2 wr (HB0.out.trans (HBW.out.mono HB0.out.size)) HR.out HBR.out (by rw[←HNR.out];omega));clear hrne hne;go_wp2_with fail;refine HFW.out.mono ?_;rintro e w3 ⟨hbad,hok⟩
    cases hx:fldE rest last cnt with
    | error n=>
     obtain⟨rfl,hb3⟩:=hbad n hx;have HSE:Hid (splitE bs.length bs 0 0=.error n):=qq (by rw[HS.out,HST.out,hx];rfl);have HB3:=qq (HBW.out.trans hb3);clear hbad hok hx hb3 q1 f1 l1;go_wp2_with fail;exact⟨rfl,fun xs h=>(by rw[HSE.out] at h;cases h),fun m h=>(by rw[HSE.out] at h;injection h with h;subst h;exact⟨rfl,HB3.out⟩)⟩
    | ok pr=>
     obtain⟨x,r2⟩:=pr;obtain⟨dv,off3,cap3,rfl,hr3,hd3,hk3,hb3⟩:=hok x r2 hx;have hlen:=fldE_len hx;have hin:=fldE_in hx HBR.out;obtain⟨da,dc,hdv⟩:=row_slice hd3;subst hdv;have HSE:Hid (splitE bs.length bs 0 0=joinE (pre ++ [x]) (splitE r2.length r2 x.t (cnt+1))):=qq (by rw[HS.out,HST.out,hx];simp only[stepE];rw[joinE_join]);have HR3:=qq hr3;have HD3:=qq hd3;have hz3:=hk3.1
     have HFL3:=qq (HFL.out.heap (w':=w3) (fun k hk hkl=>hk3.2 k hkl (fun e=>by injection e with e;omega)));have HB3:=qq (HBW.out.trans hb3);have hrl3:=HR.out.blk.lt;obtain⟨nd,hnd⟩:∃n,n=x.d.length:=⟨_,rfl⟩
     have HND:=qq hnd;rw[←hnd];have HX:=qq hlen;have HIN:=qq hin;have hc15:cnt<16:=hlen.2.2.2;clear hbad hok hx hr3 hd3 hk3 hb3 hlen hin q1 f1 l1 hnd HFW HR;have hal:=(Below.refl w3.heap.size w3).alloc (Nat.le_refl _) (.cells #[(x.t:Int),.slice da nd dc] 184);have HFA:=qq (HFL3.out.heap (fun k _ hkl=>hal.block k hkl));have HDA:=qq (row_be HD3.out hal);have HRA:=qq (HR3.out.below hal)
     have HBA:=qq (below_then HB3.out hal);have hza:w.heap.size+1≤(w3.alloc (.cells #[(x.t:Int),.slice da nd dc] 184)).heap.size:=by simp;omega
     have hrow:(w3.alloc (.cells #[(x.t:Int),.slice da nd dc] 184)).ownsRow (w.heap.size+1) 184 2 (.slice ua np uc) np (fldsL pre vs):=by have:=HFA.out.row;rw[←HNP.out] at this;exact this
     clear hal
     go_wp2_with (at_builtin;refine wpList_append_own_at _ rfl _ _ 179 rfl (w.heap.size+1) 184 i0 (.agg #[.int .i64 0,.slice none 0 0]) 2 32 Tryz.underlying179 ei ez es eb rfl (by decide) _ _ _ rfl hrow ⟨w3.heap.size,0,none⟩ 1 1 (fldL x (.slice da nd dc)) (by rfl) rfl (lit_cells (Blk.fresh _ _ _ _ rfl)) (fun u hu=>by simp only[fldL,List.mem_cons,List.not_mem_nil,or_false] at hu;rcases hu with rfl | rfl<;>rfl) ?d3 ?d4 ?d5 ?_)
     case d3=>unfold maxLen;omega
     case d4=>omega
     case d5=>exact hza
     intro v2 w6 hown hgrow _ hat;have hub:∀k,(Value.slice ua np uc).ownBlock=some k→w.heap.size+1≤k∧k<w3.heap.size:=fun k hk=>⟨(HFL3.out.row.lt k hk).1,(HFL3.out.row.lt k hk).2⟩
     have hsn:=HFA.out.snoc (x:=x) (dv:=.slice da nd dc) (row_mono (B':=wr.heap.size+1) (by rw[HND.out] at *;exact HDA.out) (by omega)) (fun k hk e=>by have h1:=(HD3.out.lt k (by rw[←HND.out];exact hk)).1;have h2:=(HFL.out.row.lt k e).2;omega) (by rw[←HNP.out];exact hown) (by rw[←HNP.out] at *;exact hgrow) (by rw[World.size_alloc];exact hat);have HSN:=qq hsn
     have hr6:RdrAt w6 w.heap.size g r2 x.t (cnt+1) off3 cap3:=by
      have hh:∀k,k≤w.heap.size→k<(w3.alloc (.cells #[(x.t:Int),.slice da nd dc] 184)).heap.size→w6.heap[k]? =(w3.alloc (.cells #[(x.t:Int),.slice da nd dc] 184)).heap[k]? :=fun k hk hkl=>hgrow.block k hkl (fun e=>by have:=(hub k e.symm).1;omega)
      have hA:=HRA.out;have hgw:g≤w.heap.size:=by omega
      exact⟨hA.blk.same hgrow.size (hh _ (Nat.le_refl _) hA.blk.lt),hA.cap,hA.ne,Nat.lt_of_lt_of_le hA.lt hgrow.size,fun j c hj=>by have h1:=hA.cell j c hj;have h2:=hh g hgw hA.lt;rw[←h1];simp[World.cell?,h2]⟩
     have HR6:=qq hr6;have HB6:=qq (HBA.out.grown hgrow HBA.out.size (fun j hj=>by have:=(hub j hj).1;omega));have hm6:lenAt (w6.cell? ⟨w.heap.size,0,none⟩)<lenAt (wr.cell? ⟨w.heap.size,0,none⟩):=by
      rw[HM0.out,hr6.blk.cell 0];have:=HX.out.1;show r2.length<rest.length
      omega
     have HM6:=qq hm6;clear hown hgrow hat hub hsn hr6 hm6 hrow hza;go_wp2_with fail;go_roundw
     case rel=>exact⟨pre ++ [x],vs ++ [.slice da nd dc],r2,x.t,cnt+1,off3,cap3,HSE,HR6,HSN,HB6,qq HIN.out.2.2,by have:=HX.out.1;have:=HNR.out;omega,by rw[List.length_append,←HNP.out];simp;omega,by omega⟩
     case measure=>exact HM6.out
theorem splitE_num:∀(f:Nat) (bs:List Nat) (last cnt:Nat) (n:Int),splitE f bs last cnt=.error n→1≤n∧n≤14
 | 0,bs,last,cnt,n,h=>by
  unfold splitE at h;split at h
  · cases h
  · injection h with h;subst h;decide
 | f+1,bs,last,cnt,n,h=>by
  unfold splitE at h;split at h
  · cases h
  · cases hx:fldE bs last cnt with
    | error e=>
     rw[hx] at h;injection h with h
     subst h;unfold fldE at hx;split at hx
     · split at hx
       · injection hx with hx;subst hx;decide
       · split at hx
         · injection hx with hx;subst hx;decide
         · cases hx
     · injection hx with hx;subst hx;decide
    | ok p=>
     obtain⟨x,rest⟩:=p;rw[hx] at h;simp only at h
     cases hr:splitE f rest x.t (cnt+1) with
     | error e=>rw[hr] at h;injection h with h;subst h;exact splitE_num f rest x.t (cnt+1) _ hr
     | ok ys=>rw[hr] at h;cases h
structure BytesIn (w:World) (a:Option Addr) (cap:Nat) (bs:List Nat):Prop where
 cap:bs.length≤cap
 byte:∀c∈bs,c<256
 cell:bs≠[]→∃g off,a=some ⟨g,off,none⟩∧g<w.heap.size∧ByteC w g off bs
theorem BytesIn.below {w w':World} {a:Option Addr} {cap:Nat} {bs:List Nat} (h:BytesIn w a cap bs) (hb:Below w.heap.size w w'):BytesIn w' a cap bs:=⟨h.cap,h.byte,fun hn=>by
  obtain⟨g,off,h1,h2,h3⟩:=h.cell hn;exact⟨g,off,h1,Nat.lt_of_lt_of_le h2 hb.size,h3.below hb h2⟩⟩
theorem split1_of (p : Nat) (a : Option Addr) (bs : List Nat) (cap : Nat) (ea : Int → Addr) (w : World) (hE : Errs ea w) (hp : Blk w p #[.slice a bs.length cap]) (hB : BytesIn w a cap bs) (hl : bs.length ≤ 900) :
    Calls Tryz.prog 259 #[.pointer (some ⟨p,0,none⟩)] w (SplitEnds ea bs w):=by
 by_cases h:bs=[]
 · subst h;exact split1_nil p a cap ea w hp
 · obtain⟨g,off,rfl,h2,h3⟩:=hB.cell h;exact split1_some p g off bs cap ea w w hE (Below.refl _ _) hp hB.cap hB.byte h2 h3 hl
theorem split_ok (a : Option Addr) (bs : List Nat) (cap : Nat) (xs : List Fld) (ea : Int → Addr) (w : World) (hE : Errs ea w) (hB : BytesIn w a cap bs) (hl : bs.length ≤ 900) (hx : splitE bs.length bs 0 0 = .ok xs) :
    Calls Tryz.prog 204 #[.slice a bs.length cap] w (fun e w'=>∃a n c,e=.returned (.tuple #[.slice a n c,.nilIface])∧ReadFlds w' (.slice a n c) xs∧Below w.heap.size w w'):=by
 have hmf:∀(fn:Fn) (first cap:Array Value) (w:World),(Instr.makeFunc fn first cap).run Tryz.prog w=.ok (.func fn first cap) w:=fun _ _ _ _=>rfl
 have HT:=qq (try_gives_split ⟨w.heap.size,0,none⟩ (fun v W=>∃B vs,w.heap.size+4≤B∧FldsAt B v xs vs W) (w.alloc (.cells #[.slice a bs.length cap] 65))
   (fun W hW hz=>(split1_of w.heap.size a bs cap ea W (hE.below (below_then (by go_grown) hW)) ((Blk.fresh w _ _ _ rfl).below hW) (hB.below (below_then (by go_grown) hW)) hl).mono fun e w' he=>by
     obtain⟨a',n,c,vs,h1,h2,h3⟩:=he.1 xs hx;exact⟨a',n,c,h1,⟨_,vs,by simp at hz;omega,h2⟩,h3⟩)
   (fun v W W' h hz hk=>by
     obtain⟨B,vs,h1,h2⟩:=h;exact⟨B,vs,h1,h2.heap (fun k hk1 hk2=>hk k (by simp;omega))⟩))
 clear hE hB hx;go_enter Tryz.func204,Tryz.ntmps204;go_wp2_with fail;refine HT.out.mono ?_;rintro e w1 ⟨va,vn,vc,rfl,⟨B,vs,_,hf⟩,hb1⟩;have HB1:=qq (below_then (show Below w.heap.size w _ from by go_grown) hb1);have HF:=qq (read_flds hf);clear hf hb1;go_wp2_with fail;refine bodyPost_ret (v:=.tuple #[.slice va vn vc,.nilIface]) (by simp[results,Tryz.results204,go_sem]) rfl ?_
 exact⟨va,vn,vc,rfl,HF.out,HB1.out⟩
theorem split_bad (a : Option Addr) (bs : List Nat) (cap : Nat) (n : Int) (ea : Int → Addr) (w : World) (hE : Errs ea w) (hB : BytesIn w a cap bs) (hl : bs.length ≤ 900) (hx : splitE bs.length bs 0 0 = .error n) :
    Calls Tryz.prog 204 #[.slice a bs.length cap] w (Makes (.tuple #[.slice none 0 0,errV (ea n)]) w):=by
 have hmf:∀(fn:Fn) (first cap:Array Value) (w:World),(Instr.makeFunc fn first cap).run Tryz.prog w=.ok (.func fn first cap) w:=fun _ _ _ _=>rfl
 have HT:=qq (try_dies_split ⟨w.heap.size,0,none⟩ n (splitE_num _ _ _ _ _ hx) ea (w.alloc (.cells #[.slice a bs.length cap] 65)) (hE.below (by go_grown))
   (fun W hW=>(split1_of w.heap.size a bs cap ea W (hE.below (below_then (by go_grown) hW)) ((Blk.fresh w _ _ _ rfl).below hW) (hB.below (below_then (by go_grown) hW)) hl).mono fun e w' he=>he.2 n hx))
 clear hE hB hx;go_enter Tryz.func204,Tryz.ntmps204;go_wp2_with fail;refine HT.out.mono ?_;rintro e w1 ⟨rfl,hb1⟩;have HB1:=qq (below_then (show Below w.heap.size w _ from by go_grown) hb1);clear hb1;go_wp2_with fail;refine bodyPost_ret (v:=.tuple #[.slice none 0 0,errV (ea n)]) (by simp[results,Tryz.results204,go_sem]) rfl ?_;exact⟨rfl,HB1.out⟩
theorem bval_cons (c:Nat) (t:List Nat):bval (c::t)=c*256 ^ t.length+bval t:=by
 have key:∀(l:List Nat) (n:Nat),l.foldl (fun n c=>n*256+c) n=n*256 ^ l.length+bval l:=by
  intro l
  induction l with
  | nil=>intro n;simp[bval]
  | cons c t ih=>
   intro n;have h1:=ih (n*256+c);have h2:=ih (0*256+c);show List.foldl (fun n c=>n*256+c) (n*256+c) t=n*256 ^ (t.length+1)+List.foldl (fun n c=>n*256+c) (0*256+c) t
   rw[h1,h2,Nat.pow_succ,Nat.add_mul,Nat.zero_mul,Nat.zero_add,Nat.mul_assoc n 256,Nat.mul_comm 256 (256 ^ t.length),Nat.add_assoc]
 have:=key t (0*256+c);rw[Nat.zero_mul,Nat.zero_add] at this;have e:bval (c::t)=List.foldl (fun n c=>n*256+c) (0*256+c) t:=rfl;rw[e,Nat.zero_mul,Nat.zero_add];exact this
theorem bval_take (d:List Nat) (k:Nat):bval (d.take k)≤bval d:=by
 have key:∀(l:List Nat) (n:Nat),n≤l.foldl (fun n c=>n*256+c) n:=by
  intro l
  induction l with
  | nil=>intro n;exact Nat.le_refl _
  | cons c t ih=>intro n;exact Nat.le_trans (by omega) (ih (n*256+c))
 have e:bval d=(d.drop k).foldl (fun n c=>n*256+c) (bval (d.take k)):=by
  unfold bval;rw[←List.foldl_append,List.take_append_drop]
 rw[e];exact key _ _
theorem numF_lt {d:List Nat} {n:Nat} (h:numF d=some n) (hb:∀c∈d,c<256):bval d=n∧n<9223372036854775808:=by
 unfold numF at h;split at h
 · cases h
 · split at h
   · cases h
   · rename_i h1 h2
     injection h with h
     refine⟨h,?_⟩;rw[←h];have h3:=not_or.1 h2
     match d,hb,h3 with
     | [],_,_=>decide
     | c::t,hb,h3=>
      have ht:=bval_lt t (fun x hx=>hb x (List.mem_cons_of_mem _ hx));have hc:=hb c (by simp);rw[bval_cons];have hl:t.length≤7:=by have:=h3.1;simp at this;omega
      by_cases h7:t.length=7
      · have hc2:c≤127:=by
         have:=h3.2;simp[h7] at this;exact this
        rw[h7] at ht⊢;have:c*256 ^ 7≤127*256 ^ 7:=Nat.mul_le_mul_right _ hc2;have e:(256:Nat) ^ 7=72057594037927936:=by decide
        rw[e] at this ht⊢;omega
      · have hl6:t.length≤6:=by omega
        have hp:256 ^ t.length≤256 ^ 6:=Nat.pow_le_pow_right (by decide) hl6;have h5:c*256 ^ t.length≤255*256 ^ 6:=Nat.le_trans (Nat.mul_le_mul_right _ (show c≤255 by omega)) (Nat.mul_le_mul_left _ hp);have e:(256:Nat) ^ 6=281474976710656:=by decide
        rw[e] at hp h5;omega
def DataC (w:World) (a:Option Addr) (d:List Nat):Prop:=∀(j c:Nat),d[j]? =some c→∃g,a=some ⟨g,0,none⟩∧g<w.heap.size∧w.cell? ⟨g,j,none⟩=some (.int .u8 (c:Int))
theorem DataC.below {w w':World} {a:Option Addr} {d:List Nat} (h:DataC w a d) (hb:Below w.heap.size w w'):DataC w' a d:=fun j c hj=>by
 obtain⟨g,h1,h2,h3⟩:=h j c hj;exact⟨g,h1,Nat.lt_of_lt_of_le h2 hb.size,(hb.cell (p:=⟨g,j,none⟩) h2).trans h3⟩
theorem tonum_zero (a:Option Addr) (cap:Nat) (t:List Nat) (ea:Int→Addr) (w:World) (hE:Errs ea w) (hD:DataC w a (0::t)) (hl:t.length≤300):Calls Tryz.prog 207 #[.slice a (t.length+1) cap] w (Makes (.tuple #[.int .i64 0,errV (ea 4)]) w):=by
 obtain⟨g,rfl,hg,hc⟩:=hD 0 0 rfl;have c4:w.cell? ⟨3,0,none⟩=some (errV (ea 4)):=hE.e4;obtain⟨n,hn⟩:∃n,n=t.length:=⟨_,rfl⟩
 rw[←hn] at hl⊢;clear hE hD hn;go_enter Tryz.func207,Tryz.ntmps207;go_wp2_with fail;go_region;go_wp2_with fail;refine bodyPost_ret (v:=.tuple #[.int .i64 0,errV (ea 4)]) (by simp[results,Tryz.results207,go_sem]) rfl ?_;exact⟨rfl,by go_grown⟩
theorem tonum_ok (a:Option Addr) (cap:Nat) (d:List Nat) (n:Nat) (w:World) (hb:∀c∈d,c<256) (hD:DataC w a d) (hn:numF d=some n):Calls Tryz.prog 207 #[.slice a d.length cap] w (Makes (.tuple #[.int .i64 (n:Int),.nilIface]) w):=by
 obtain⟨hv,hlt⟩:=numF_lt hn hb;have HT:Hid (∀k,bval (d.take k)<9223372036854775808):=qq (fun k=>Nat.lt_of_le_of_lt (bval_take d k) (by omega));have HV:=qq hv;have h0:¬d.head? =some 0∧¬(8<d.length∨d.length=8∧127<d.headD 0):=by
  unfold numF at hn;split at hn
  · cases hn
  · split at hn
    · cases hn
    · exact⟨by assumption,by assumption⟩
 have HD:=qq hD;have HB:=qq hb;have HFST:Hid (0<d.length→∃c g,a=some ⟨g,0,none⟩∧g<w.heap.size∧w.cell? ⟨g,0,none⟩=some (.int .u8 (c:Nat))∧c≠0∧c<256∧(d.length=8→c≤127)):=qq (fun hp=>by
   match d,hD,h0,hb,hp with
   | c::t,hD,h0,hb,_=>
     obtain⟨g,h1,h2,h3⟩:=hD 0 c rfl;refine⟨c,g,h1,h2,h3,fun e=>h0.1 (by simp[e]),hb c (by simp),fun e=> ?_⟩;have:=h0.2;simp at this e;have h8:=this.2 e;omega)
 obtain⟨m,hm⟩:∃m,m=d.length:=⟨_,rfl⟩
 have HM:=qq hm;have hm8:m≤8:=by have:=h0.2;omega
 rw[←hm] at HFST⊢;clear hn hv hlt h0 hD hb hm;by_cases hz:m=0
 · subst hz;have hn0:n=0:=by rw[←HV.out,List.length_eq_zero_iff.1 HM.out.symm];rfl
   subst hn0;go_enter Tryz.func207,Tryz.ntmps207;go_wp2_with fail;go_loopw [36,4] (fun c u wr=>c=.int .i64 0∧u=.int .i64 0∧wr=w) (fun _ _ _=>0)
   case atStart=>exact⟨rfl,rfl,rfl⟩
   case round=>
    obtain⟨rfl,rfl,rfl⟩:=hrel;go_wp2_with fail;refine bodyPost_ret (v:=.tuple #[.int .i64 0,.nilIface]) (by simp[results,Tryz.results207,go_sem]) rfl ?_;exact⟨rfl,Below.refl _ _⟩
 · obtain⟨c,g,rfl,hg,hc,hc0,hc256,hc8⟩:=HFST.out (by omega);have hp:(0:Int)<(m:Int):=by omega
   have hc0':((c:Int)==0)=false:=by simpa using hc0
   have h9:¬(8:Int)<(m:Int):=by omega
   have hq:((m:Int)==8)=false∨(((m:Int)==8)=true∧¬(127:Int)<(c:Int)):=by
    by_cases h8:m=8
    · exact .inr ⟨by rw[h8];rfl,by have:=hc8 h8;omega⟩
    · exact .inl (by simpa using(show ¬(m:Int)=8 by omega))
   clear hc0 hc8 hz;rcases hq with hq | ⟨hq,hq2⟩
   all_goals
    go_enter Tryz.func207,Tryz.ntmps207;go_wp2_with fail;clear hc hq hc0' h9;go_loopw [36,4] (fun cc u wr=>∃k:Nat,k≤m∧cc=.int .i64 (k:Int)∧u=.int .i64 (bval (d.take k):Nat)∧wr=w) (fun cc _ _=>m - (intOf cc).toNat)
    case atStart=>exact⟨0,by omega,by first | rfl | go_num,by first | rfl | simp[bval],rfl⟩
    case round=>
     obtain⟨k,hk,rfl,rfl,rfl⟩:=hrel;by_cases hlt:k<m
     · obtain⟨x,hx⟩:∃x,d[k]? =some x:=⟨_,List.getElem?_eq_getElem (by rw[←HM.out];exact hlt)⟩
       obtain⟨g2,hg2,hgl,hcx⟩:=HD.out k x hx;injection hg2 with hg2
       injection hg2 with hg2
       subst hg2;have hx256:=HB.out x (List.mem_of_getElem? hx);have hnext:bval (d.take (k+1))=bval (d.take k)*256+x:=by
        obtain⟨hkl,he⟩:=List.getElem?_eq_some_iff.1 hx;rw[List.take_succ_eq_append_getElem hkl,he,bval_snoc]
       have hb1:=HT.out (k+1);rw[hnext] at hb1;have HNX:=qq hnext;obtain⟨y,hy⟩:∃y,y=bval (d.take k):=⟨_,rfl⟩
       rw[←hy] at hb1⊢;have HY:=qq hy;have hor:=or_byte y x (by omega) hx256;have hy0:(0:Int)≤(y:Int)*256:=by omega
       have hy1:(y:Int)*256≤9223372036854775807:=by omega
       have hk0:(0:Int)≤(k:Int):=by omega
       have hk1:(k:Int)<(m:Int):=by omega
       clear hx hnext hy;go_wp2_with fail;go_roundw
       case rel=>exact⟨k+1,by omega,by go_num,by rw[HNX.out,←HY.out];simp,by first | rfl | exact True.intro⟩
       case measure=>simp[intOf];omega
     · obtain rfl:k=m:=by omega
       have hkm:bval (d.take k)=n:=by rw[HM.out,List.take_length];exact HV.out
       rw[hkm];clear hkm;go_wp2_with fail;refine bodyPost_ret (v:=.tuple #[.int .i64 (n:Int),.nilIface]) (by simp[results,Tryz.results207,go_sem]) rfl ?_;exact⟨rfl,Below.refl _ _⟩
theorem tonum_long (a:Option Addr) (cap:Nat) (c:Nat) (t:List Nat) (ea:Int→Addr) (w:World) (hE:Errs ea w) (hD:DataC w a (c::t)) (hc:c≠0) (hc2:c<256) (hl:t.length≤300) (hg:8<t.length+1∨t.length+1=8∧127<c):Calls Tryz.prog 207 #[.slice a (t.length+1) cap] w (Makes (.tuple #[.int .i64 0,errV (ea 1)]) w):=by
 obtain⟨g,rfl,hgl,hcc⟩:=hD 0 c rfl;have c1:w.cell? ⟨0,0,none⟩=some (errV (ea 1)):=hE.e1;have hc0:((c:Int)==0)=false:=by simpa using hc
 obtain⟨n,hn⟩:∃n,n=t.length:=⟨_,rfl⟩
 rw[←hn] at hl hg⊢;clear hE hD hn hc;by_cases h8:8<n+1
 · have h9:(8:Int)<(n:Int)+1:=by omega
   clear hg h8;go_enter Tryz.func207,Tryz.ntmps207;go_wp2_with fail;go_region;go_wp2_with fail;refine bodyPost_ret (v:=.tuple #[.int .i64 0,errV (ea 1)]) (by simp[results,Tryz.results207,go_sem]) rfl ?_;exact⟨rfl,by go_grown⟩
 · obtain rfl:n=7:=by omega
   have h9:(127:Int)<(c:Int):=by omega
   clear hg h8;go_enter Tryz.func207,Tryz.ntmps207;go_wp2_with fail;go_region;go_wp2_with fail;refine bodyPost_ret (v:=.tuple #[.int .i64 0,errV (ea 1)]) (by simp[results,Tryz.results207,go_sem]) rfl ?_;exact⟨rfl,by go_grown⟩
theorem tonum_bad (a:Option Addr) (cap:Nat) (d:List Nat) (ea:Int→Addr) (w:World) (hE:Errs ea w) (hb:∀c∈d,c<256) (hD:DataC w a d) (hl:d.length≤300) (hn:numF d=none):∃k,1≤k∧k≤14∧Calls Tryz.prog 207 #[.slice a d.length cap] w (Makes (.tuple #[.int .i64 0,errV (ea k)]) w):=by
 match d,hb,hD,hl,hn with
 | [],_,_,_,hn=>simp[numF] at hn
 | c::t,hb,hD,hl,hn=>
  simp only[List.length_cons] at hl;by_cases h0:c=0
  · subst h0;exact⟨4,by decide,by decide,tonum_zero a cap t ea w hE hD (by omega)⟩
  · refine⟨1,by decide,by decide,tonum_long a cap c t ea w hE hD h0 (hb c (by simp)) (by omega) ?_⟩;unfold numF at hn;rw[if_neg (by simpa using h0)] at hn;split at hn
    · rename_i h1
      simpa using h1
    · cases hn
theorem fplain_twice (x:Nat):fplain (fplain x)=fplain x:=by
 have h1:fplain 9221120237041090561=9221120237041090561:=by decide+kernel
 have h2:fplain 0=0:=by decide+kernel
 by_cases h:fnan x=true
 · have e:fplain x=9221120237041090561:=by unfold fplain;rw[if_pos h]
   rw[e,h1]
 · by_cases h':x=9223372036854775808
   · have e:fplain x=0:=by unfold fplain;rw[if_neg h,if_pos h']
     rw[e,h2]
   · have e:fplain x=x:=by unfold fplain;rw[if_neg h,if_neg h']
     rw[e,e]
theorem fplain_F64 {x:Nat} (h:F64 x):F64 (fplain x):=by
 unfold fplain;split
 · unfold F64;decide
 · split
   · unfold F64;decide
   · exact h
theorem from_of (n:Nat) (hn:F64 n) (w:World):Calls Tryz.prog 261 #[.int .u64 (n:Int)] w (Gives (flV (fplain n)) w):=by
 have hf:=frombits_run;have HP:=qq (fun W=>plain_of n hn W);clear hn;go_enter Tryz.func261,Tryz.ntmps261;go_wp2_with fail;refine(HP.out _).mono ?_;rintro e w1 ⟨rfl,rfl⟩;go_wp2_with fail;go_ret;exact⟨rfl,rfl⟩
theorem bits_or_byte64 (a b:Nat) (ha:a<72057594037927936) (hb:b<256):bits .or .u64 ((a:Int)*256) (b:Int)=((a*256+b:Nat):Int):=by
 have e:((a:Int)*256)=((a*256:Nat):Int):=by omega
 rw[e,bits_or_u64_nat _ _ (by omega) (by omega),or_hi a b hb]
theorem toflt_len (a:Option Addr) (cap n:Nat) (ea:Int→Addr) (w:World) (hE:Errs ea w) (hl:n≠8):Calls Tryz.prog 206 #[.slice a n cap] w (Makes (.tuple #[flV 0,errV (ea 4)]) w):=by
 have c4:w.cell? ⟨3,0,none⟩=some (errV (ea 4)):=hE.e4;have hq:((n:Int) !=8)=true:=by simpa using(show ¬(n:Int)=8 by omega)
 clear hE hl;go_enter Tryz.func206,Tryz.ntmps206;go_wp2_with fail;go_region;go_wp2_with fail;refine bodyPost_ret (v:=.tuple #[flV 0,errV (ea 4)]) (by simp[results,Tryz.results206,go_sem]) rfl ?_;exact⟨rfl,by go_grown⟩
theorem toflt_of (a:Option Addr) (cap:Nat) (d:List Nat) (ea:Int→Addr) (w:World) (hE:Errs ea w) (hl:d.length=8) (hb:∀c∈d,c<256) (hD:DataC w a d):Calls Tryz.prog 206 #[.slice a 8 cap] w (Makes (if fplain (bval d)=bval d then .tuple #[flV (bval d),.nilIface] else .tuple #[flV 0,errV (ea 4)]) w):=by
 have c4:w.cell? ⟨3,0,none⟩=some (errV (ea 4)):=hE.e4;have hv:bval d<18446744073709551616:=by have:=bval_lt d hb;rw[hl] at this;simpa using this
 have HT:Hid (∀k,bval (d.take k)<18446744073709551616):=qq (fun k=>Nat.lt_of_le_of_lt (bval_take d k) hv);have HF:=qq (fun W=>from_of (bval d) hv W);have HBT:=qq (fun W=>bits_of (fplain (bval d)) (fplain_F64 hv) W);rw[fplain_twice] at HBT;have HD:=qq hD;have HB:=qq hb;have HL:=qq hl;have HVV:=qq hv
 obtain⟨rv,hrv⟩:∃v:Value,v=(if fplain (bval d)=bval d then .tuple #[flV (bval d),.nilIface] else .tuple #[flV 0,errV (ea 4)]):=⟨_,rfl⟩
 rw[←hrv];have HRV:=qq hrv;clear hE hD hb hl hv hrv;go_enter Tryz.func206,Tryz.ntmps206;go_wp2_with fail;go_loopw [14,4] (fun cc u wr=>∃k:Nat,k≤8∧cc=.int .i64 (k:Int)∧u=.int .u64 (bval (d.take k):Nat)∧wr=w) (fun cc _ _=>8 - (intOf cc).toNat)
 case atStart=>exact⟨0,by omega,by first | rfl | go_num,by first | rfl | simp[bval],rfl⟩
 case round=>
  obtain⟨k,hk,rfl,rfl,rfl⟩:=hrel;by_cases hlt:k<8
  · obtain⟨x,hx⟩:∃x,d[k]? =some x:=⟨_,List.getElem?_eq_getElem (by rw[HL.out];exact hlt)⟩
    obtain⟨g,rfl,hgl,hcx⟩:=HD.out k x hx;have hx256:=HB.out x (List.mem_of_getElem? hx);have hnext:bval (d.take (k+1))=bval (d.take k)*256+x:=by
     obtain⟨hkl,he⟩:=List.getElem?_eq_some_iff.1 hx;rw[List.take_succ_eq_append_getElem hkl,he,bval_snoc]
    have hb1:=HT.out (k+1);rw[hnext] at hb1;have HNX:=qq hnext;obtain⟨y,hy⟩:∃y,y=bval (d.take k):=⟨_,rfl⟩
    rw[←hy] at hb1⊢;have HY:=qq hy;have hor:=bits_or_byte64 y x (by omega) hx256;have hy0:(0:Int)≤(y:Int)*256:=by omega
    have hy1:(y:Int)*256≤18446744073709551615:=by omega
    have hwr:IntKind.u64.wrap ((y:Int)*256)=(y:Int)*256:=by rw[IntKind.wrap_u64];omega
    have hk0:(0:Int)≤(k:Int):=by omega
    have hk1:(k:Int)<8:=by omega
    clear hx hnext hy;go_wp2_with fail;go_roundw
    case rel=>exact⟨k+1,by omega,by go_num,by rw[HNX.out,←HY.out];simp,by first | rfl | exact True.intro⟩
    case measure=>simp[intOf];omega
  · obtain rfl:k=8:=by omega
    have hkm:bval (d.take 8)=bval d:=by rw[←HL.out,List.take_length]
    rw[hkm];clear hkm hlt hk;obtain⟨n,hn⟩:∃n,n=bval d:=⟨_,rfl⟩
    rw[←hn] at HF HBT⊢;obtain⟨q,hq⟩:∃q,q=fplain n:=⟨_,rfl⟩
    rw[←hq] at HF HBT;have HNN:=qq hn;have HQQ:Hid (q=fplain n):=qq hq;clear hn hq;go_wp2_with fail;refine(HF.out _).mono ?_;rintro e w1 ⟨rfl,rfl⟩;go_wp2_with fail;refine(HBT.out _).mono ?_;rintro e w1 ⟨rfl,rfl⟩;by_cases he:q=n
    · subst he;have hrv2:=HRV.out;rw[←HNN.out,←HQQ.out,if_pos rfl] at hrv2;go_wp2_with fail;refine bodyPost_ret (v:=.tuple #[flV q,.nilIface]) (by simp[results,Tryz.results206,go_sem]) rfl ?_;exact⟨by rw[hrv2],Below.refl _ _⟩
    · have hrv2:=HRV.out;rw[←HNN.out,←HQQ.out,if_neg he] at hrv2;have HR2:=qq hrv2;have hne:((q:Int) !=(n:Int))=true:=by simpa using(show ¬(q:Int)=(n:Int) by omega)
      clear he hrv2;go_wp2_with fail;go_region;go_wp2_with fail;refine bodyPost_ret (v:=.tuple #[flV 0,errV (ea 4)]) (by simp[results,Tryz.results206,go_sem]) rfl ?_;exact⟨by rw[HR2.out],by go_grown⟩
def plA (fb:Nat):Array Value:= #[.pointer (some ⟨fb,0,none⟩),.pointer (some ⟨fb,1,none⟩),.pointer (some ⟨fb,2,none⟩),.pointer (some ⟨fb,3,none⟩),.pointer (some ⟨fb,4,none⟩),.pointer (some ⟨fb,5,none⟩),.pointer (some ⟨fb,6,none⟩),.pointer (some ⟨fb,7,none⟩),.pointer (some ⟨fb,8,none⟩),.pointer (some ⟨fb,9,none⟩),.pointer (some ⟨fb,10,none⟩),.pointer (some ⟨fb,11,none⟩),.pointer (some ⟨fb,12,none⟩)]
theorem plA_at (fb:Nat) (k:Nat) (hk:k<13):(plA fb)[k]? =some (.pointer (some ⟨fb,k,none⟩)):=by
 have:∀j:Fin 13,(plA fb)[j.1]? =some (.pointer (some ⟨fb,j.1,none⟩)):=by
  intro j
  match j with
  | 0 | 1 | 2 | 3 | 4 | 5 | 6 | 7 | 8 | 9 | 10 | 11 | 12=>rfl
 exact this ⟨k,hk⟩
theorem places_of (fb:Nat) (w:World):Calls Tryz.prog 205 #[.pointer (some ⟨fb,0,none⟩)] w (Makes (.agg (plA fb)) w):=by
 go_enter Tryz.func205,Tryz.ntmps205;go_wp2_with fail;go_region;go_wp2_with fail;refine bodyPost_ret (v:=.agg (plA fb)) (by simp[results,Tryz.results205,go_sem,plA]) rfl ?_;exact⟨rfl,by go_grown⟩
end Go.Proofs.YtlkajejbfojkeaaGreatDoor
