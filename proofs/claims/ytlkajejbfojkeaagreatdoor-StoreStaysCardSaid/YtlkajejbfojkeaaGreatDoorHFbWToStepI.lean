/- FbW, FbX, FbY, FbU, FbV, FbZ, FcA, FcB, StepI -/
import Derived.Test.YtlkajejbfojkeaaGreatDoorHStoGToFbT
import Derived.Shelf.SlGeneric
import Derived.Ground.SlgnProg
import Derived.Shelf.SlicesE.Reverse
import Derived.Lib.OwnBridge
import Derived.OrdersIn
import Derived.TacticsInMore
import Derived.RangeFuncWrites
set_option linter.unusedSimpArgs false
set_option linter.unusedVariables false
set_option maxRecDepth 100000
set_option maxHeartbeats 16000000
namespace Go.Proofs.YtlkajejbfojkeaaGreatDoor
open Go.RowKit Go.Shelf
attribute [local go_sem] store_float
shelf_lay_g SlLaysE.n35 Slgn 35 at Tryz 266 as shRev
theorem rev_of (B : Nat) (v : Value) (n : Nat) (l : List Nat) (w0 w : World) (h : w.ownsRow B 5 1 v n (bytesL l)) (hl : n ≤ 1000) (hb : Below w0.heap.size w0 w) (hB : w0.heap.size ≤ B) :
    Calls Tryz.prog 266 #[v] w (fun e w'=>e=.returned (.tuple #[])∧w'.ownsRow B 5 1 v n (bytesL l.reverse)∧Below w0.heap.size w0 w'):=by
 by_cases hv:v=.slice none 0 0
 · subst hv;have hn:n=0∧l=[]:=by
    obtain⟨a,cap,hv⟩:=row_slice h;injection hv with _ hv _
    have:=h.1;unfold bytesL at this;rw[List.length_map] at this;exact⟨hv.symm,List.length_eq_zero_iff.1 (by omega)⟩
   obtain⟨rfl,rfl⟩:=hn;refine(AnyE.slices_Reverse_empty shRev none 0 w).mono ?_;rintro e w' ⟨rfl,rfl⟩;exact⟨rfl,h,hb⟩
 · obtain⟨g,cap,rfl,hg,hgl,hnc,hcm,hlen,hH⟩:=Lib.holds_of_ownsRow (enc:=byteL) h hv;subst hlen;refine(AnyE.slices_Reverse shRev byteL (fun x=>rfl) g 0 cap l w hH (by omega)).mono ?_;rintro e w' ⟨rfl,q,rfl⟩;refine⟨rfl,?_,Lib.below_putRow hb (by omega)⟩;have:=Lib.ownsRow_putRow (q:=q) (ys:=l.reverse) (k:=l.length) h (by simp) (Nat.le_refl _);rwa[List.take_of_length_le (by simp)] at this
theorem lowB_step {k m:Nat} (h:m≠0):lowB (k+1) m=(m % 256)::lowB k (m / 256):=by
 conv=>lhs;unfold lowB
 rw[if_neg h]
theorem lowB_zero (k:Nat):lowB k 0=[]:=by cases k<;>simp[lowB]
theorem number_of (n:Nat) (hn:n<9223372036854775808) (w:World):Calls Tryz.prog 214 #[.int .i64 (n:Int)] w (fun e w'=>∃v,e=.returned (.tuple #[v,.nilIface])∧w'.ownsRow w.heap.size 5 1 v (numB n).length (bytesL (numB n))∧Below w.heap.size w w'):=by
 obtain⟨j0,fi,fz,fs,fb⟩:=info_parts infoByte;have h0:¬(n:Int)<0:=by omega
 have hL:Hid (lowB 8 n=[] ++lowB 8 n):=qq rfl;have hlb:∀k m,(lowB k m).length≤k:=lowB_len;have HLB:=qq hlb;have h8:n<256 ^ 8:=by have e:(256:Nat) ^ 8=18446744073709551616:=(by decide);omega
 have H8:=qq h8;clear hlb h8;go_enter Tryz.func214,Tryz.ntmps214;go_wp2_with fail;go_loopw [0,4] (fun cc u wr=>∃(m k:Nat) (pre:List Nat),cc=.int .i64 (m:Int)∧m≤n∧pre.length+k=8∧Hid (m<256 ^ k)∧Hid (lowB 8 n=pre ++lowB k m)∧Hid (wr.ownsRow w.heap.size 5 1 u pre.length (bytesL pre))∧Hid (Below w.heap.size w wr)) (fun cc _ _=>(intOf cc).toNat)
 case atStart=>exact⟨n,8,[],by first | rfl | go_num,Nat.le_refl _,rfl,H8,hL,qq (World.ownsRow_nil _ _ _ _),qq (Below.refl _ _)⟩
 case round=>
  obtain⟨m,k,pre,rfl,hmn,hpk,HM,HL,HO,HB⟩:=hrel;obtain⟨ua,uc,hu⟩:=row_slice HO.out;subst hu;obtain⟨np,hnp⟩:∃x,x=pre.length:=⟨_,rfl⟩
  have HNP:=qq hnp;rw[←hnp] at HO hpk⊢;have hwr:=HB.out.size;clear hnp;by_cases hm:m=0
  · subst hm;have hfin:lowB 8 n=pre:=by rw[HL.out,lowB_zero,List.append_nil]
    have HFIN:=qq hfin;have HREV:=qq (fun W hb h=>rev_of w.heap.size (.slice ua np uc) np pre w W h (by omega) hb (Nat.le_refl _));clear hfin;go_wp2_with fail;refine(HREV.out _ HB.out HO.out).mono ?_;rintro e w3 ⟨rfl,hown,hb3⟩;have HOW:=qq hown;have HB3:=qq hb3;clear hown hb3;go_wp2_with fail;go_ret2;refine⟨_,rfl,?_,HB3.out⟩;have e1:numB n=pre.reverse:=by unfold numB;rw[HFIN.out]
    rw[e1,List.length_reverse,←HNP.out];exact HOW.out
  · have hm0:(0:Int)<(m:Int):=by omega
    obtain⟨k1,rfl⟩:∃k1,k=k1+1:=by
     cases k with
     | zero=>have:=HM.out;simp at this;omega
     | succ k1=>exact⟨k1,rfl⟩
    have HST:Hid (lowB 8 n=(pre ++ [m % 256]) ++lowB k1 (m / 256)):=qq (by rw[HL.out,lowB_step hm,List.append_assoc];rfl);have HMD:Hid (m / 256<256 ^ k1):=qq (by have:=HM.out;rw[Nat.pow_succ] at this;omega);have hal:=(Below.refl wr.heap.size wr).alloc (Nat.le_refl _) (.cells #[.int .u8 ((m:Int) % 256)] 5);have hrow:=row_be HO.out hal;have HBA:=qq (below_then HB.out hal)
    have hza:w.heap.size≤(wr.alloc (.cells #[.int .u8 ((m:Int) % 256)] 5)).heap.size:=by simp;omega
    have HUB:=qq (fun k hk=>(HO.out.lt k hk).1);clear hm hal;go_wp2_with (at_builtin;refine wpList_append_own_at _ rfl _ _ 65 rfl w.heap.size 5 j0 (.int .u8 0) 1 1 Tryz.underlying65 fi fz fs fb rfl (by decide) _ _ _ rfl hrow ⟨wr.heap.size,0,none⟩ 1 1 [.int .u8 ((m:Int) % 256)] (by rfl) rfl (lit_cells (Blk.fresh _ _ _ _ rfl)) (fun u hu=>by obtain rfl:=List.mem_singleton.1 hu;rfl) ?d3 ?d4 ?d5 ?_)
    case d3=>unfold maxLen;omega
    case d4=>omega
    case d5=>exact hza
    intro v2 w6 hown hgrow _ _;have hO6:w6.ownsRow w.heap.size 5 1 v2 (pre ++ [m % 256]).length (bytesL (pre ++ [m % 256])):=by
     have e:bytesL (pre ++ [m % 256])=bytesL pre ++ [.int .u8 ((m:Int) % 256)]:=by unfold bytesL;rw[List.map_append];rfl
     rw[e,List.length_append,←HNP.out];exact hown
    have HO6:=qq hO6;have HB6:=qq (HBA.out.grown hgrow HBA.out.size (fun j hj=>HUB.out j hj));obtain⟨m',hm'⟩:∃x,x=m / 256:=⟨_,rfl⟩
    have hshr:(m:Int) / 256=(m':Int):=by omega
    have HM':=qq hm';have hlt:m'<m:=by omega
    clear hown hgrow hO6 hrow hza hm';go_wp2_with fail;go_roundw
    case rel=>exact⟨m',k1,pre ++ [m % 256],by first | rfl | go_num,by omega,by rw[List.length_append,←HNP.out];simp;omega,qq (by rw[HM'.out];exact HMD.out),qq (by rw[HM'.out];exact HST.out),HO6,HB6⟩
    case measure=>simp[intOf];omega
def arrE (q:Nat):Nat→Array Value
 | 0=> #[.int .u8 0,.int .u8 0,.int .u8 0,.int .u8 0,.int .u8 0,.int .u8 0,.int .u8 0,.int .u8 0]
 | 1=> #[.int .u8 0,.int .u8 0,.int .u8 0,.int .u8 0,.int .u8 0,.int .u8 0,.int .u8 0,.int .u8 ((q:Int) % 256)]
 | 2=> #[.int .u8 0,.int .u8 0,.int .u8 0,.int .u8 0,.int .u8 0,.int .u8 0,.int .u8 ((q:Int) / 256 % 256),.int .u8 ((q:Int) % 256)]
 | 3=> #[.int .u8 0,.int .u8 0,.int .u8 0,.int .u8 0,.int .u8 0,.int .u8 ((q:Int) / 65536 % 256),.int .u8 ((q:Int) / 256 % 256),.int .u8 ((q:Int) % 256)]
 | 4=> #[.int .u8 0,.int .u8 0,.int .u8 0,.int .u8 0,.int .u8 ((q:Int) / 16777216 % 256),.int .u8 ((q:Int) / 65536 % 256),.int .u8 ((q:Int) / 256 % 256),.int .u8 ((q:Int) % 256)]
 | 5=> #[.int .u8 0,.int .u8 0,.int .u8 0,.int .u8 ((q:Int) / 4294967296 % 256),.int .u8 ((q:Int) / 16777216 % 256),.int .u8 ((q:Int) / 65536 % 256),.int .u8 ((q:Int) / 256 % 256),.int .u8 ((q:Int) % 256)]
 | 6=> #[.int .u8 0,.int .u8 0,.int .u8 ((q:Int) / 1099511627776 % 256),.int .u8 ((q:Int) / 4294967296 % 256),.int .u8 ((q:Int) / 16777216 % 256),.int .u8 ((q:Int) / 65536 % 256),.int .u8 ((q:Int) / 256 % 256),.int .u8 ((q:Int) % 256)]
 | 7=> #[.int .u8 0,.int .u8 ((q:Int) / 281474976710656 % 256),.int .u8 ((q:Int) / 1099511627776 % 256),.int .u8 ((q:Int) / 4294967296 % 256),.int .u8 ((q:Int) / 16777216 % 256),.int .u8 ((q:Int) / 65536 % 256),.int .u8 ((q:Int) / 256 % 256),.int .u8 ((q:Int) % 256)]
 | _=> #[.int .u8 ((q:Int) / 72057594037927936 % 256),.int .u8 ((q:Int) / 281474976710656 % 256),.int .u8 ((q:Int) / 1099511627776 % 256),.int .u8 ((q:Int) / 4294967296 % 256),.int .u8 ((q:Int) / 16777216 % 256),.int .u8 ((q:Int) / 65536 % 256),.int .u8 ((q:Int) / 256 % 256),.int .u8 ((q:Int) % 256)]
theorem blk_hp {w:World} {b:Nat} {C:Array Value} {T:TypeId} (h:w.heap[b]? =some (.cells C T (0,0))):Blk w b C:=⟨(Array.getElem?_eq_some_iff.1 h).1,fun i=>by simp[World.cell?,h],fun i=>by simp[World.frozen?,h]⟩
theorem arrE_all (q j c:Nat) (hj:((lowE 8 q).reverse)[j]? =some c):(arrE q 8)[j]? =some (.int .u8 (c:Int)):=by
 have hl:(lowE 8 q).reverse=[q / 256 / 256 / 256 / 256 / 256 / 256 / 256 % 256,q / 256 / 256 / 256 / 256 / 256 / 256 % 256,q / 256 / 256 / 256 / 256 / 256 % 256,q / 256 / 256 / 256 / 256 % 256,q / 256 / 256 / 256 % 256,q / 256 / 256 % 256,q / 256 % 256,q % 256]:=rfl;rw[hl] at hj;simp only[Nat.div_div_eq_div_mul] at hj;unfold arrE
 match j,hj with
 | 0,hj=>simp at hj⊢;omega
 | 1,hj=>simp at hj⊢;omega
 | 2,hj=>simp at hj⊢;omega
 | 3,hj=>simp at hj⊢;omega
 | 4,hj=>simp at hj⊢;omega
 | 5,hj=>simp at hj⊢;omega
 | 6,hj=>simp at hj⊢;omega
 | 7,hj=>simp at hj⊢;omega
 | n+8,hj=>simp at hj
theorem floatB_of (x:Nat) (hx:F64 x) (w:World):Calls Tryz.prog 215 #[flV x] w (fun e w'=>e=.returned (.slice (some ⟨w.heap.size,0,none⟩) 8 8)∧w'.ownsRow w.heap.size 5 1 (.slice (some ⟨w.heap.size,0,none⟩) 8 8) 8 (bytesL (fltB x))∧Below w.heap.size w w'):=by
 have HBT:=qq (fun W=>bits_of x hx W);have hfb:fltB x=(lowE 8 (fplain x)).reverse:=rfl;have hq:=fplain_F64 hx;rw[hfb];generalize fplain x=q at*;have hmk:∀w:World,(Instr.makeSlice 65 (.int .i64 8) (.int .i64 8)).run Tryz.prog w=.ok (.slice (some ⟨w.heap.size,0,none⟩) 8 8) (w.alloc (.cells (arrE q 0) 5)):=fun w=>by kernel_rfl
 have hq0:(0:Int)≤(q:Int):=by omega
 have HEND:Hid (bytesL (lowE 8 q).reverse=(arrE q 8).toList):=qq (by
   have h1:∀j c,((lowE 8 q).reverse)[j]? =some c→(arrE q 8).toList[j]? =some (byteL c):=fun j c h=>by rw[Array.getElem?_toList];exact arrE_all q j c h
   refine List.ext_getElem? (fun j=> ?_);unfold bytesL;rw[List.getElem?_map]
   cases hc:((lowE 8 q).reverse)[j]? with
   | some c=>rw[h1 j c hc];rfl
   | none=>
     have hl:((lowE 8 q).reverse).length=8:=rfl;have:8≤j:=by have:=List.getElem?_eq_none_iff.1 hc;omega
     rw[List.getElem?_eq_none (show(arrE q 8).toList.length≤j from this)];rfl)
 clear hx hfb hq;go_enter Tryz.func215,Tryz.ntmps215;go_wp2_with fail;refine(HBT.out _).mono ?_;rintro e w1 ⟨rfl,rfl⟩;go_wp2_with fail;go_loopw [11] (fun cc wr=>∃i:Nat,i≤8∧cc=.int .i64 (i:Int)∧Hid (wr.heap[w.heap.size]? =some (.cells (arrE q i) 5 (0,0)))∧Hid (Below w.heap.size w wr)) (fun cc _=>8 - (intOf cc).toNat)
 case atStart=>exact⟨0,by omega,by first | rfl | go_num,qq (hp_new _ rfl),qq (by go_grown)⟩
 case round=>
  obtain⟨i,hi,rfl,HK,HB⟩:=hrel
  match i,hi,HK with
  | 8,_,HK=>
   go_wp2_with fail;go_ret;exact⟨rfl,⟨by rw[HEND.out];rfl,.inr ⟨w.heap.size,8,arrE q 8,rfl,Nat.le_refl _,HK.out,Nat.le_refl _,by unfold maxLen;omega,rfl,by rw[HEND.out];rfl⟩⟩,HB.out⟩
  | n+9,h,_=>omega
  | 0,_,HK=>
   obtain⟨l,qc,fc⟩:=blk_hp HK.out;have hold:wr.cell? ⟨w.heap.size,7,none⟩=some (.int .u8 0):=qc 7;have hf7:=fc 7;have HK2:Hid ((wr.setCell ⟨w.heap.size,7,none⟩ (.int .u8 ((q:Int) % 256))).heap[w.heap.size]? =some (.cells (arrE q 1) 5 (0,0))):=qq (by have h:=heap_setCell_same wr w.heap.size 7 _ _ (.int .u8 ((q:Int) % 256)) HK.out;simpa[arrE] using h)
   have HB2:=qq (bel_set HB.out (p:=⟨w.heap.size,7,none⟩) (Nat.le_refl _) (.int .u8 ((q:Int) % 256)));clear qc fc;go_wp2_with fail;go_roundw
   case rel=>exact⟨1,by omega,by first | rfl | go_num,HK2,HB2⟩
   case measure=>simp[intOf]
  | 1,_,HK=>
   obtain⟨l,qc,fc⟩:=blk_hp HK.out;have hold:wr.cell? ⟨w.heap.size,6,none⟩=some (.int .u8 0):=qc 6;have hf7:=fc 6;have HK2:Hid ((wr.setCell ⟨w.heap.size,6,none⟩ (.int .u8 ((q:Int) / 256 % 256))).heap[w.heap.size]? =some (.cells (arrE q 2) 5 (0,0))):=qq (by have h:=heap_setCell_same wr w.heap.size 6 _ _ (.int .u8 ((q:Int) / 256 % 256)) HK.out;simpa[arrE] using h)
   have HB2:=qq (bel_set HB.out (p:=⟨w.heap.size,6,none⟩) (Nat.le_refl _) (.int .u8 ((q:Int) / 256 % 256)));clear qc fc;go_wp2_with fail;go_roundw
   case rel=>exact⟨2,by omega,by first | rfl | go_num,HK2,HB2⟩
   case measure=>simp[intOf]
  | 2,_,HK=>
   obtain⟨l,qc,fc⟩:=blk_hp HK.out;have hold:wr.cell? ⟨w.heap.size,5,none⟩=some (.int .u8 0):=qc 5;have hf7:=fc 5;have HK2:Hid ((wr.setCell ⟨w.heap.size,5,none⟩ (.int .u8 ((q:Int) / 65536 % 256))).heap[w.heap.size]? =some (.cells (arrE q 3) 5 (0,0))):=qq (by have h:=heap_setCell_same wr w.heap.size 5 _ _ (.int .u8 ((q:Int) / 65536 % 256)) HK.out;simpa[arrE] using h)
   have HB2:=qq (bel_set HB.out (p:=⟨w.heap.size,5,none⟩) (Nat.le_refl _) (.int .u8 ((q:Int) / 65536 % 256)));clear qc fc;go_wp2_with fail;go_roundw
   case rel=>exact⟨3,by omega,by first | rfl | go_num,HK2,HB2⟩
   case measure=>simp[intOf]
  | 3,_,HK=>
   obtain⟨l,qc,fc⟩:=blk_hp HK.out;have hold:wr.cell? ⟨w.heap.size,4,none⟩=some (.int .u8 0):=qc 4;have hf7:=fc 4;have HK2:Hid ((wr.setCell ⟨w.heap.size,4,none⟩ (.int .u8 ((q:Int) / 16777216 % 256))).heap[w.heap.size]? =some (.cells (arrE q 4) 5 (0,0))):=qq (by have h:=heap_setCell_same wr w.heap.size 4 _ _ (.int .u8 ((q:Int) / 16777216 % 256)) HK.out;simpa[arrE] using h)
   have HB2:=qq (bel_set HB.out (p:=⟨w.heap.size,4,none⟩) (Nat.le_refl _) (.int .u8 ((q:Int) / 16777216 % 256)));clear qc fc;go_wp2_with fail;go_roundw
   case rel=>exact⟨4,by omega,by first | rfl | go_num,HK2,HB2⟩
   case measure=>simp[intOf]
  | 4,_,HK=>
   obtain⟨l,qc,fc⟩:=blk_hp HK.out;have hold:wr.cell? ⟨w.heap.size,3,none⟩=some (.int .u8 0):=qc 3;have hf7:=fc 3;have HK2:Hid ((wr.setCell ⟨w.heap.size,3,none⟩ (.int .u8 ((q:Int) / 4294967296 % 256))).heap[w.heap.size]? =some (.cells (arrE q 5) 5 (0,0))):=qq (by have h:=heap_setCell_same wr w.heap.size 3 _ _ (.int .u8 ((q:Int) / 4294967296 % 256)) HK.out;simpa[arrE] using h)
   have HB2:=qq (bel_set HB.out (p:=⟨w.heap.size,3,none⟩) (Nat.le_refl _) (.int .u8 ((q:Int) / 4294967296 % 256)));clear qc fc;go_wp2_with fail;go_roundw
   case rel=>exact⟨5,by omega,by first | rfl | go_num,HK2,HB2⟩
   case measure=>simp[intOf]
  | 5,_,HK=>
   obtain⟨l,qc,fc⟩:=blk_hp HK.out;have hold:wr.cell? ⟨w.heap.size,2,none⟩=some (.int .u8 0):=qc 2;have hf7:=fc 2;have HK2:Hid ((wr.setCell ⟨w.heap.size,2,none⟩ (.int .u8 ((q:Int) / 1099511627776 % 256))).heap[w.heap.size]? =some (.cells (arrE q 6) 5 (0,0))):=qq (by have h:=heap_setCell_same wr w.heap.size 2 _ _ (.int .u8 ((q:Int) / 1099511627776 % 256)) HK.out;simpa[arrE] using h)
   have HB2:=qq (bel_set HB.out (p:=⟨w.heap.size,2,none⟩) (Nat.le_refl _) (.int .u8 ((q:Int) / 1099511627776 % 256)));clear qc fc;go_wp2_with fail;go_roundw
   case rel=>exact⟨6,by omega,by first | rfl | go_num,HK2,HB2⟩
   case measure=>simp[intOf]
  | 6,_,HK=>
   obtain⟨l,qc,fc⟩:=blk_hp HK.out;have hold:wr.cell? ⟨w.heap.size,1,none⟩=some (.int .u8 0):=qc 1;have hf7:=fc 1;have HK2:Hid ((wr.setCell ⟨w.heap.size,1,none⟩ (.int .u8 ((q:Int) / 281474976710656 % 256))).heap[w.heap.size]? =some (.cells (arrE q 7) 5 (0,0))):=qq (by have h:=heap_setCell_same wr w.heap.size 1 _ _ (.int .u8 ((q:Int) / 281474976710656 % 256)) HK.out;simpa[arrE] using h)
   have HB2:=qq (bel_set HB.out (p:=⟨w.heap.size,1,none⟩) (Nat.le_refl _) (.int .u8 ((q:Int) / 281474976710656 % 256)));clear qc fc;go_wp2_with fail;go_roundw
   case rel=>exact⟨7,by omega,by first | rfl | go_num,HK2,HB2⟩
   case measure=>simp[intOf]
  | 7,_,HK=>
   obtain⟨l,qc,fc⟩:=blk_hp HK.out;have hold:wr.cell? ⟨w.heap.size,0,none⟩=some (.int .u8 0):=qc 0;have hf7:=fc 0;have HK2:Hid ((wr.setCell ⟨w.heap.size,0,none⟩ (.int .u8 ((q:Int) / 72057594037927936 % 256))).heap[w.heap.size]? =some (.cells (arrE q 8) 5 (0,0))):=qq (by have h:=heap_setCell_same wr w.heap.size 0 _ _ (.int .u8 ((q:Int) / 72057594037927936 % 256)) HK.out;simpa[arrE] using h)
   have HB2:=qq (bel_set HB.out (p:=⟨w.heap.size,0,none⟩) (Nat.le_refl _) (.int .u8 ((q:Int) / 72057594037927936 % 256)));clear qc fc;go_wp2_with fail;go_roundw
   case rel=>exact⟨8,by omega,by first | rfl | go_num,HK2,HB2⟩
   case measure=>simp[intOf]
theorem joinB_append (xs ys:List Fld):joinB (xs ++ys)=joinB xs ++joinB ys:=by unfold joinB;rw[List.flatMap_append]
theorem joinB_len:∀(xs:List Fld),(∀x∈xs,x.d.length≤200)→(joinB xs).length≤203*xs.length
 | [],_=>by simp[joinB]
 | x::t,h=>by
  have h1:=joinB_len t (fun y hy=>h y (by simp[hy]));have h2:=h x (by simp);have e:(joinB (x::t)).length=(x.d.length+3)+(joinB t).length:=by simp[joinB];omega
  simp only[List.length_cons];omega
theorem rowOk_all:∀(xs:List Fld) (last:Nat),RowOk last xs→∀x∈xs,x.d.length≤200
 | [],_,_,x,h=>by cases h
 | y::t,last,h,x,hx=>by
  obtain⟨h1,h2,h3⟩:=h;rcases List.mem_cons.1 hx with rfl | hx
  · exact h2
  · exact rowOk_all t _ h3 x hx
theorem fjoin_of (a : Option Addr) (cap N : Nat) (xs : List Fld) (w : World) (hN : N = xs.length) (hF : ReadFlds w (.slice a N cap) xs) (hR : RowOk 0 xs) (ht : ∀ x ∈ xs, x.t ≤ 255 ∧ x.d ≠ [] ∧ ∀ c ∈ x.d, c < 256) (hl : N ≤ 16) :
    Calls Tryz.prog 216 #[.slice a N cap] w (fun e w'=>∃v,e=.returned (.tuple #[v,.nilIface])∧w'.ownsRow w.heap.size 5 1 v (joinB xs).length (bytesL (joinB xs))∧Below w.heap.size w w'):=by
 obtain⟨j0,fi,fz,fs,fb⟩:=info_parts infoByte;obtain⟨a2,cap2,hv,hr⟩:=hF;simp only[Value.slice.injEq] at hv;obtain⟨rfl,-,rfl⟩:=hv;have HRF:=qq hr;have HNN:=qq hN;have HT:=qq ht;have HR0:=qq hR;have HD:=qq (rowOk_all _ _ hR);clear hr hN ht hR;go_enter Tryz.func216,Tryz.ntmps216;go_wp2_with fail
 go_loopw [4,5,14] (fun u la cc wr=>∃(i last:Nat),i≤N∧cc=.int .i64 (i:Int)∧la=.int .i64 (last:Int)∧Hid (RowOk last (xs.drop i))∧Hid (wr.ownsRow w.heap.size 5 1 u (joinB (xs.take i)).length (bytesL (joinB (xs.take i))))∧Hid (Below w.heap.size w wr)) (fun _ _ cc _=>N - (intOf cc).toNat)
 case atStart=>exact⟨0,0,by omega,by first | rfl | go_num,by first | rfl | go_num,HR0,qq (World.ownsRow_nil _ _ _ _),qq (Below.refl _ _)⟩
 case round=>
  obtain⟨i,last,hi,rfl,rfl,HR,HO,HB⟩:=hrel;obtain⟨ua,uc,hu⟩:=row_slice HO.out;subst hu;have hi0:(0:Int)≤(i:Int):=by omega
  obtain⟨nu,hnu⟩:∃x,x=(joinB (xs.take i)).length:=⟨_,rfl⟩
  have HNU:=qq hnu;have hnu2:nu≤203*16:=by
   have h1:=joinB_len (xs.take i) (fun x hx=>HD.out x (List.mem_of_mem_take hx));rw[List.length_take] at h1;omega
  rw[←hnu] at HO⊢;clear hnu;by_cases hlt:i<N
  · have hi1:(i:Int)<(N:Int):=by omega
    obtain⟨x,hx⟩:∃x,xs[i]? =some x:=⟨_,List.getElem?_eq_getElem (by have:=HNN.out;omega)⟩
    obtain⟨g,rfl,hg,da,dc,h0,h1,h2⟩:=HRF.out i x hx;have c0:=(HB.out.cell (p:=⟨g,i*2,none⟩) hg).trans h0;have c1:=(HB.out.cell (p:=⟨g,i*2+1,none⟩) hg).trans h1;have HDR:Hid (xs.drop i=x::xs.drop (i+1)):=qq (by obtain⟨hil,he⟩:=List.getElem?_eq_some_iff.1 hx;rw[List.drop_eq_getElem_cons hil,he])
    have HTK:Hid (joinB (xs.take (i+1))=joinB (xs.take i) ++(x.t::(x.d.length / 256)::(x.d.length % 256)::x.d)):=qq (by
      obtain⟨hil,he⟩:=List.getElem?_eq_some_iff.1 hx;rw[List.take_succ_eq_append_getElem hil,he,joinB_append];simp[joinB])
    obtain⟨hx1,hx2,hx3⟩:=HT.out x (List.mem_of_getElem? hx);have hro:RowOk last (x::xs.drop (i+1)):=by rw[←HDR.out];exact HR.out
    obtain⟨hla,hdl,hR2⟩:=hro;have HR2:=qq hR2;have HDC:Hid (∀W,Below w.heap.size w W→∃gd,da=some ⟨gd,0,none⟩∧gd<w.heap.size∧∀(j c:Nat),x.d[j]? =some c→W.cell? ⟨gd,j,none⟩=some (.int .u8 (c:Int))):=qq (fun W hW=>by
      obtain⟨c,hc⟩:∃c,x.d[0]? =some c:=⟨_,List.getElem?_eq_getElem (List.length_pos_iff.2 hx2)⟩
      obtain⟨gd,rfl,hgd,_⟩:=h2 0 c hc;exact⟨gd,rfl,hgd,fun j c hj=>by obtain⟨gd',he,_,h3⟩:=h2 j c hj;injection he with he;injection he with he;subst he;exact(hW.cell (p:=⟨gd,j,none⟩) hgd).trans h3⟩)
    obtain⟨gd,rfl,hgd,-⟩:=HDC.out _ HB.out;obtain⟨t,d⟩:=x;dsimp only at*;obtain⟨nd,hnd⟩:∃n,n=d.length:=⟨_,rfl⟩
    have HND:=qq hnd;rw[←hnd] at c1 hdl;have hnd0:0<nd:=by rw[hnd];exact List.length_pos_iff.2 hx2
    have hla2:(last:Int)<(t:Int):=by omega
    have ht2:(t:Int)≤255:=by omega
    have hnd2:(nd:Int)≤200:=by omega
    have HBA:=qq (bel_alloc (bel_alloc HB.out (.cells #[(t:Int),.slice (some ⟨gd,0,none⟩) nd dc] 184)) (.cells #[.int .u8 (t:Int),.int .u8 0,.int .u8 (nd:Int)] 5));have hwr:=HB.out.size;have hrow:=row_be HO.out ((Below.refl wr.heap.size wr).alloc (Nat.le_refl _) (.cells #[(t:Int),.slice (some ⟨gd,0,none⟩) nd dc] 184) |>.alloc (by simp) (.cells #[.int .u8 (t:Int),.int .u8 0,.int .u8 (nd:Int)] 5))
    have HUB:=qq (fun k hk=>HO.out.lt k hk);have HFB:=qq ((Blk.fresh wr #[(t:Int),.slice (some ⟨gd,0,none⟩) nd dc] 184 _ rfl).alloc (.cells #[.int .u8 (t:Int),.int .u8 0,.int .u8 (nd:Int)] 5));have hza:w.heap.size≤((wr.alloc (.cells #[(t:Int),.slice (some ⟨gd,0,none⟩) nd dc] 184)).alloc (.cells #[.int .u8 (t:Int),.int .u8 0,.int .u8 (nd:Int)] 5)).heap.size:=by simp;omega
    have HDL:=qq (show ∀c∈d,c<256 from hx3);have hnd3:(nd:Int) / 256=0:=by omega
    clear h0 h1 h2 hx hlt hx2 hx3 hnd hR2
    go_wp2_with (at_builtin;refine wpList_append_own_at _ rfl _ _ 65 rfl w.heap.size 5 j0 (.int .u8 0) 1 1 Tryz.underlying65 fi fz fs fb rfl (by decide) _ _ _ rfl hrow ⟨wr.heap.size+1,0,none⟩ 3 3 [.int .u8 (t:Int),.int .u8 0,.int .u8 (nd:Int)] (by rfl) rfl (lit_cells (Blk.fresh _ _ _ _ (by simp))) (fun u hu=>by simp only[List.mem_cons,List.not_mem_nil,or_false] at hu;rcases hu with rfl | rfl | rfl<;>rfl) ?d3 ?d4 ?d5 ?_)
    case d3=>unfold maxLen;omega
    case d4=>omega
    case d5=>exact hza
    intro v2 w6 hown hgrow _ _;obtain⟨ua2,uc2,hu2⟩:=row_slice hown;subst hu2;have HO6:=qq hown;have HF6:=qq (HFB.out.same hgrow.size (hgrow.block _ HFB.out.lt (fun e=>by have:=(HUB.out _ e.symm).2;omega)));have HB6:=qq (HBA.out.grown hgrow HBA.out.size (fun j hj=>(HUB.out j hj).1));clear hown hgrow hrow hza;obtain⟨lf,qf,ff⟩:=HF6.out;obtain⟨gd2,hgd2,hgl,hcd⟩:=HDC.out _ HB6.out
    injection hgd2 with hgd2
    injection hgd2 with hgd2
    subst hgd2;have HCD:=qq hcd;have hn7:nu+3+nd≤5000:=by omega
    clear hcd;go_wp2_with (at_builtin;refine wpList_append_own_at _ rfl _ _ 65 rfl w.heap.size 5 j0 (.int .u8 0) 1 1 Tryz.underlying65 fi fz fs fb rfl (by decide) _ _ _ rfl HO6.out ⟨gd,0,none⟩ nd dc (bytesL d) (by rfl) ?e1 ?e2 (bytesL_one d) ?e3 ?e4 ?e5 ?_)
    case e1=>unfold bytesL;rw[List.length_map,HND.out]
    case e2=>
     intro j u hu;unfold bytesL at hu;rw[List.getElem?_map] at hu;obtain⟨c,hc,rfl⟩:=Option.map_eq_some_iff.1 hu;have hadd:((⟨gd,0,none⟩:Addr).add j)=⟨gd,j,none⟩:=by unfold Addr.add;split<;>simp_all
     (try rw[hadd])
     exact HCD.out j c hc
    case e3=>unfold maxLen;omega
    case e4=>omega
    case e5=>exact HB6.out.size
    intro v3 w7 hown hgrow _ _;obtain⟨ua3,uc3,hu3⟩:=row_slice hown;subst hu3;have hO7:w7.ownsRow w.heap.size 5 1 (.slice ua3 (nu+3+nd) uc3) (joinB (xs.take (i+1))).length (bytesL (joinB (xs.take (i+1)))):=by
     have e1:bytesL (joinB (xs.take (i+1)))=bytesL (joinB (xs.take i)) ++(.int .u8 (t:Int):: .int .u8 0:: .int .u8 (nd:Int)::bytesL d):=by
      rw[HTK.out,←HND.out];have h1:nd / 256=0:=by omega
      have h2:nd % 256=nd:=by omega
      rw[h1,h2];simp[bytesL,byteL]
     have e2:(joinB (xs.take (i+1))).length=nu+3+nd:=by rw[HTK.out,List.length_append,←HNU.out];simp[←HND.out];omega
     rw[e1,e2];exact hown
    have HO7:=qq hO7;have HB7:=qq (HB6.out.grown hgrow HB6.out.size (fun j hj=>(HO6.out.lt j hj).1));clear hown hgrow hO7 qf ff lf;go_wp2_with fail;go_roundw
    case rel=>exact⟨i+1,t,by omega,by go_num,rfl,HR2,HO7,HB7⟩
    case measure=>simp[intOf];omega
  · obtain rfl:i=N:=by omega
    have hall:xs.take i=xs:=List.take_of_length_le (by have:=HNN.out;omega);rw[hall] at HO HNU;clear hall hlt;go_wp2_with fail;go_ret2;exact⟨_,rfl,by rw[←HNU.out];exact HO.out,HB.out⟩
def numsF (f:SFact):List Int:=[f.k,f.an,f.aq,f.rg,f.nd,f.pt,f.pr,f.oc,f.dp,f.pa,f.st,f.hw,f.de]
def oneF (i:Nat) (n:Int):List Fld:=if n=0 then[] else[⟨i,numB n.toNat⟩]
def encN:Nat→List Int→List Fld
 | _,[]=>[]
 | i,n::t=>oneF i n ++encN (i+1) t
def encF (f:SFact):List Fld:=encN 1 (numsF f) ++(if f.k=1 then[⟨14,fltB f.ex⟩] else[])
def bytesF (f:SFact):List Nat:=joinB (encF f)
theorem stOk_nums {s h:Int} (hs:stOk s h=true):0≤s∧s≤14∧0≤h∧h≤8:=by
 unfold stOk at hs;split at hs
 · simp at hs;omega
 · simp at hs;omega
theorem fok_nums {f:SFact} (h:fok f=true):(∀n∈numsF f,0≤n∧n≤999999)∧(f.k≠1→f.ex=0)∧(f.k=1→fplain f.ex=f.ex):=by
 obtain⟨k,an,aq,rg,nd,pt,pr,oc,dp,pa,st,hw,de,ex⟩:=f;have hk:=fok_any h;have key:(0≤k∧k≤999999∧0≤an∧an≤999999∧0≤aq∧aq≤999999∧0≤rg∧rg≤999999∧0≤nd∧nd≤999999∧0≤pt∧pt≤999999∧0≤pr∧pr≤999999)∧(0≤oc∧oc≤999999∧0≤dp∧dp≤999999∧0≤pa∧pa≤999999∧0≤st∧st≤999999∧0≤hw∧hw≤999999∧0≤de∧de≤999999)∧(k≠1→ex=0)∧(k=1→fplain ex=ex):=by
  dsimp only at hk;unfold fok at h;dsimp only at h;by_cases h1:k=1
  · rw[if_pos h1,Bool.and_eq_true,Bool.and_eq_true,decide_eq_true_iff,decide_eq_true_iff] at h;have hi:=ctxOk_id h.1.1;have ho:=ctxOk_oc h.1.1;have hx:fplain ex=ex:=by
     have:=h.1.1;unfold ctxOk at this;simp only[Bool.and_eq_true,decide_eq_true_iff] at this;exact this.1.1.2
    exact⟨by omega,by omega,fun e=>absurd h1 e,fun _=>hx⟩
  · rw[if_neg h1,Bool.and_eq_true,decide_eq_true_iff] at h;obtain⟨h0,h⟩:=h;refine⟨?_,?_,fun _=>h0.1,fun e=>absurd e h1⟩
    all_goals
     by_cases h2:k=2
     · rw[if_pos h2] at h;simp only[Bool.and_eq_true,decide_eq_true_iff,idOk_iff] at h;omega
     rw[if_neg h2] at h;by_cases h3:k=3
     · rw[if_pos h3] at h;simp only[Bool.and_eq_true,decide_eq_true_iff,idOk_iff] at h;have hst:=stOk_nums h.1.2;omega
     rw[if_neg h3] at h;by_cases h4:k=4
     · rw[if_pos h4] at h;simp only[Bool.and_eq_true,decide_eq_true_iff,idOk_iff] at h;omega
     rw[if_neg h4] at h;by_cases h5:k=5
     · rw[if_pos h5] at h;simp only[Bool.and_eq_true,decide_eq_true_iff,idOk_iff] at h;omega
     rw[if_neg h5] at h;by_cases h6:k=6
     · rw[if_pos h6] at h;simp only[Bool.and_eq_true,decide_eq_true_iff,idOk_iff] at h;omega
     rw[if_neg h6] at h;by_cases h7:k=7
     · rw[if_pos h7] at h;simp only[Bool.and_eq_true,decide_eq_true_iff] at h;omega
     rw[if_neg h7] at h;by_cases h8:k=8
     · rw[if_pos h8] at h;simp only[Bool.and_eq_true,decide_eq_true_iff] at h;have hst:=stOk_nums h.1.2;omega
     rw[if_neg h8] at h
     cases h
 obtain⟨hA,hB,hC,hD⟩:=key;refine⟨fun n hn=> ?_,hC,hD⟩;simp only[numsF,List.mem_cons,List.not_mem_nil,or_false] at hn;omega
theorem encN_row:∀(l:List Int) (i last:Nat) (rest:List Fld),(∀n∈l,0≤n∧n≤999999)→last<i→(∀z,z<i+l.length→RowOk z rest)→RowOk last (encN i l ++rest)
 | [],i,last,rest,_,hlt,hr=>hr last (by simp;omega)
 | n::t,i,last,rest,hn,hlt,hr=>by
  have ih:=fun z (hz:z<i+1)=>encN_row t (i+1) z rest (fun m hm=>hn m (by simp[hm])) hz (fun y hy=>hr y (by simp;omega))
  unfold encN oneF;by_cases h0:n=0
  · rw[if_pos h0,List.nil_append];exact ih last (by omega)
  · rw[if_neg h0,List.cons_append,List.nil_append,List.cons_append];have:=hn n (by simp);have h1:=numF_numB (n:=n.toNat) (by omega) (by omega);exact⟨hlt,by dsimp only;omega,ih i (by omega)⟩
theorem encN_len:∀(l:List Int) (i:Nat),(encN i l).length≤l.length
 | [],_=>Nat.le_refl _
 | n::t,i=>by
  have:=encN_len t (i+1);unfold encN oneF;split
  · simp;omega
  · simp;omega
theorem encF_row {f:SFact} (h:fok f=true) (hx:F64 f.ex):RowOk 0 (encF f)∧(encF f).length≤14:=by
 have hn:=(fok_nums h).1;refine⟨?_,?_⟩
 · unfold encF;refine encN_row _ 1 0 _ hn (by omega) (fun z hz=> ?_);have hz14:z<14:=by simpa[numsF] using hz
   split
   · have:=(fltF_fltB hx).2.1;exact⟨hz14,by dsimp only;omega,trivial⟩
   · trivial
 · unfold encF;rw[List.length_append];have:=encN_len (numsF f) 1;have h13:(numsF f).length=13:=rfl;split<;>simp<;>omega
theorem rd_one {g:SFact} {b:Bool} {i:Nat} {n:Int} {t:List Fld} (h:0≤n∧n≤999999) (hi:1≤i∧i≤13) (h0:setTag g i 0=g):rdAll (g,b) (oneF i n ++t)=rdAll (setTag g i n,b) t:=by
 unfold oneF;by_cases hz:n=0
 · subst hz;rw[if_pos rfl,h0];rfl
 · rw[if_neg hz,List.cons_append,List.nil_append];have h1:=numF_numB (n:=n.toNat) (by omega) (by omega);refine rdStep_some ?_;unfold rdStep;rw[if_neg (by dsimp only;omega),if_neg (by dsimp only;rintro(e | e);omega;exact h1.2.1 e)];dsimp only;rw[h1.1];simp only[Option.map_some];rw[Int.toNat_of_nonneg h.1]
theorem rd_to {g g':SFact} {b:Bool} {i:Nat} {n:Int} {t:List Fld} (h:0≤n∧n≤999999) (hi:1≤i∧i≤13) (h0:setTag g i 0=g) (h1:setTag g i n=g'):rdAll (g,b) (oneF i n ++t)=rdAll (g',b) t:=by
 rw[rd_one h hi h0,h1]
theorem rd_encN {f:SFact} {b:Bool} {t:List Fld} (h:∀n∈numsF f,0≤n∧n≤999999):rdAll (fact00,b) (encN 1 (numsF f) ++t)=rdAll ({f with ex:=0},b) t:=by
 obtain⟨k,an,aq,rg,nd,pt,pr,oc,dp,pa,st,hw,de,ex⟩:=f;simp only[numsF,encN,List.append_assoc,List.nil_append];simp only[numsF,List.mem_cons,List.not_mem_nil,or_false] at h;refine(rd_to (g:=⟨0,0,0,0,0,0,0,0,0,0,0,0,0,0⟩) (g':=⟨k,0,0,0,0,0,0,0,0,0,0,0,0,0⟩) (i:=1) (n:=k) (h k (by simp)) (by omega) rfl rfl).trans ?_
 refine(rd_to (g:=⟨k,0,0,0,0,0,0,0,0,0,0,0,0,0⟩) (g':=⟨k,an,0,0,0,0,0,0,0,0,0,0,0,0⟩) (i:=2) (n:=an) (h an (by simp)) (by omega) rfl rfl).trans ?_;refine(rd_to (g:=⟨k,an,0,0,0,0,0,0,0,0,0,0,0,0⟩) (g':=⟨k,an,aq,0,0,0,0,0,0,0,0,0,0,0⟩) (i:=3) (n:=aq) (h aq (by simp)) (by omega) rfl rfl).trans ?_
 refine(rd_to (g:=⟨k,an,aq,0,0,0,0,0,0,0,0,0,0,0⟩) (g':=⟨k,an,aq,rg,0,0,0,0,0,0,0,0,0,0⟩) (i:=4) (n:=rg) (h rg (by simp)) (by omega) rfl rfl).trans ?_;refine(rd_to (g:=⟨k,an,aq,rg,0,0,0,0,0,0,0,0,0,0⟩) (g':=⟨k,an,aq,rg,nd,0,0,0,0,0,0,0,0,0⟩) (i:=5) (n:=nd) (h nd (by simp)) (by omega) rfl rfl).trans ?_
 refine(rd_to (g:=⟨k,an,aq,rg,nd,0,0,0,0,0,0,0,0,0⟩) (g':=⟨k,an,aq,rg,nd,pt,0,0,0,0,0,0,0,0⟩) (i:=6) (n:=pt) (h pt (by simp)) (by omega) rfl rfl).trans ?_;refine(rd_to (g:=⟨k,an,aq,rg,nd,pt,0,0,0,0,0,0,0,0⟩) (g':=⟨k,an,aq,rg,nd,pt,pr,0,0,0,0,0,0,0⟩) (i:=7) (n:=pr) (h pr (by simp)) (by omega) rfl rfl).trans ?_
 refine(rd_to (g:=⟨k,an,aq,rg,nd,pt,pr,0,0,0,0,0,0,0⟩) (g':=⟨k,an,aq,rg,nd,pt,pr,oc,0,0,0,0,0,0⟩) (i:=8) (n:=oc) (h oc (by simp)) (by omega) rfl rfl).trans ?_;refine(rd_to (g:=⟨k,an,aq,rg,nd,pt,pr,oc,0,0,0,0,0,0⟩) (g':=⟨k,an,aq,rg,nd,pt,pr,oc,dp,0,0,0,0,0⟩) (i:=9) (n:=dp) (h dp (by simp)) (by omega) rfl rfl).trans ?_
 refine(rd_to (g:=⟨k,an,aq,rg,nd,pt,pr,oc,dp,0,0,0,0,0⟩) (g':=⟨k,an,aq,rg,nd,pt,pr,oc,dp,pa,0,0,0,0⟩) (i:=10) (n:=pa) (h pa (by simp)) (by omega) rfl rfl).trans ?_;refine(rd_to (g:=⟨k,an,aq,rg,nd,pt,pr,oc,dp,pa,0,0,0,0⟩) (g':=⟨k,an,aq,rg,nd,pt,pr,oc,dp,pa,st,0,0,0⟩) (i:=11) (n:=st) (h st (by simp)) (by omega) rfl rfl).trans ?_
 refine(rd_to (g:=⟨k,an,aq,rg,nd,pt,pr,oc,dp,pa,st,0,0,0⟩) (g':=⟨k,an,aq,rg,nd,pt,pr,oc,dp,pa,st,hw,0,0⟩) (i:=12) (n:=hw) (h hw (by simp)) (by omega) rfl rfl).trans ?_;refine(rd_to (g:=⟨k,an,aq,rg,nd,pt,pr,oc,dp,pa,st,hw,0,0⟩) (g':=⟨k,an,aq,rg,nd,pt,pr,oc,dp,pa,st,hw,de,0⟩) (i:=13) (n:=de) (h de (by simp)) (by omega) rfl rfl).trans ?_;rfl
theorem rdFact_bytesF {f:SFact} (h:fok f=true) (hx:F64 f.ex):rdFact (bytesF f)=some f:=by
 obtain⟨hn,h1,h2⟩:=fok_nums h;obtain⟨hr,hl⟩:=encF_row h hx;have hs:splitE (bytesF f).length (bytesF f) 0 0=.ok (encF f):=split_join (encF f) _ 0 0 hr (by omega) (Nat.le_refl _);rw[rdFact_ok hs];unfold encF;rw[rd_encN hn];by_cases hk:f.k=1
 · rw[if_pos hk];have h3:=fltF_fltB hx;rw[rdStep_some (s':=({f with ex:=fplain f.ex},true)) (by unfold rdStep;rw[if_pos rfl];dsimp only;rw[h3.1];rfl),h2 hk];show rdEnd (some (f,true))=some f
   unfold rdEnd;simp only;rw[if_neg (by rw[h];simp[hk])]
 · rw[if_neg hk];have e:({f with ex:=0}:SFact)=f:=by
    obtain⟨k,an,aq,rg,nd,pt,pr,oc,dp,pa,st,hw,de,ex⟩:=f;have:=h1 hk;dsimp only at this;subst this;rfl
   rw[e];show rdEnd (some (f,false))=some f
   unfold rdEnd;simp only;rw[if_neg (by rw[h];simp[hk])]
theorem sreplay_bytes:∀(l:List SFact) (S:Sto),(∀f∈l,fok f=true∧F64 f.ex)→sreplay S (l.map bytesF)=sgo S l
 | [],S,_=>rfl
 | f::t,S,h=>by
  have hf:=h f (by simp);rw[List.map_cons,sreplay_cons,rdFact_bytesF hf.1 hf.2];show(if(sapply S f).2=0 then sreplay (sapply S f).1 (t.map bytesF) else none)=(if(sapply S f).2=0 then sgo (sapply S f).1 t else none)
  rw[sreplay_bytes t (sapply S f).1 (fun g hg=>h g (by simp[hg]))]
theorem sgo_fok:∀(l:List SFact) (S T:Sto),sgo S l=some T→∀f∈l,fok f=true
 | [],S,T,_,f,hf=>by cases hf
 | g::t,S,T,h,f,hf=>by
  have h':(if(sapply S g).2=0 then sgo (sapply S g).1 t else none)=some T:=h;split at h'
  · rename_i h0
    rcases List.mem_cons.1 hf with rfl | hf
    · cases hq:fok f with
      | true=>rfl
      | false=>
       unfold sapply at h0;rw[if_pos hq] at h0
       cases h0
    · exact sgo_fok t _ T h' f hf
  · cases h'
def SEx (S:Sto):Prop:=∀a∈S.acts,F64 a.ex
theorem sact_ex {a b:SAct} {f:SFact} (h:sact a f=some b):b.ex=a.ex:=by
 unfold sact at h;split at h
 · split at h
   · cases h
   · injection h with h;subst h;rfl
 · split at h
   · split at h
     · cases h
     · obtain⟨t,_,rfl⟩:=Option.map_eq_some_iff.1 h;rfl
   · split at h
     · cases h
     · injection h with h;subst h;rfl
theorem ex_put {S T:Sto} {f:SFact} (hS:SEx S) (hf:F64 f.ex) (h:sput S f=some T):SEx T:=by
 unfold sput at h;split at h
 · split at h
   · cases h
   · injection h with h
     subst h;intro a ha;rcases List.mem_append.1 ha with ha | ha
     · exact hS a ha
     · obtain rfl:=List.mem_singleton.1 ha;exact hf
 · split at h
   · split at h
     · cases h
     · injection h with h
       subst h;exact hS
   · split at h
     · split at h
       · cases h
       · split at h
         · obtain⟨t,_,rfl⟩:=Option.map_eq_some_iff.1 h;exact hS
         · split at h
           · cases h
           · injection h with h
             subst h;exact hS
     · split at h
       · cases h
       · split at h
         · cases h
         · rename_i i _ a ha
           split at h
           · split at h
             · cases h
             · injection h with h
               subst h;intro c hc;rcases List.mem_append.1 hc with hc | hc
               · exact hS c (List.mem_of_mem_take hc)
               · exact hS c (List.mem_of_mem_drop hc)
           · obtain⟨b,hb,rfl⟩:=Option.map_eq_some_iff.1 h;intro c hc;rcases List.mem_or_eq_of_mem_set hc with hc | rfl
             · exact hS c hc
             · rw[sact_ex hb];exact hS a (List.mem_of_getElem? ha)
theorem ex_apply {S:Sto} {f:SFact} (hS:SEx S) (hf:F64 f.ex):SEx (sapply S f).1:=by
 unfold sapply;split
 · exact hS
 · split
   · exact hS
   · rename_i T hT
     exact ex_put hS hf hT
theorem F64_zero:F64 0:=by unfold F64;decide
theorem ex_partsF:∀(ps:List SPart) (i:Nat),∀f∈partsF i ps,F64 f.ex
 | [],_,f,h=>by cases h
 | p::t,i,f,h=>by
  unfold partsF at h;rcases List.mem_append.1 h with h | h
  · unfold partF at h;rcases List.mem_cons.1 h with rfl | h
    · exact F64_zero
    · rcases List.mem_append.1 h with h | h
      · split at h
        · cases h
        · obtain rfl:=List.mem_singleton.1 h;exact F64_zero
      · split at h
        · cases h
        · obtain rfl:=List.mem_singleton.1 h;exact F64_zero
  · exact ex_partsF t (i+1) f h
theorem ex_enrF (a:SAct):∀(rs:List SReg) (i:Nat),∀f∈enrF a i rs,F64 f.ex
 | [],_,f,h=>by cases h
 | r::t,i,f,h=>by
  unfold enrF at h;rcases List.mem_cons.1 h with rfl | h
  · exact F64_zero
  · exact ex_enrF a t (i+1) f h
theorem ex_seatF (a:SAct):∀(rs:List SReg) (i:Nat),∀f∈seatF a i rs,F64 f.ex
 | [],_,f,h=>by cases h
 | r::t,i,f,h=>by
  unfold seatF at h;rcases List.mem_append.1 h with h | h
  · split at h
    · cases h
    · obtain rfl:=List.mem_singleton.1 h;exact F64_zero
  · exact ex_seatF a t (i+1) f h
theorem ex_sfacts {S:Sto} (hS:SEx S):∀f∈sfacts S,F64 f.ex:=by
 intro f h;unfold sfacts at h;rcases List.mem_append.1 h with h | h
 · exact ex_partsF _ _ f h
 · rcases List.mem_append.1 h with h | h
   · obtain⟨a,ha,h⟩:=List.mem_flatMap.1 h;unfold actF at h;rcases List.mem_cons.1 h with rfl | h
     · exact hS a ha
     · rcases List.mem_append.1 h with h | h
       · exact ex_enrF a _ _ f h
       · rcases List.mem_append.1 h with h | h
         · exact ex_seatF a _ _ f h
         · split at h
           · cases h
           · obtain rfl:=List.mem_singleton.1 h;exact F64_zero
   · unfold lastF at h;split at h
     · rcases List.mem_cons.1 h with rfl | h
       · exact F64_zero
       · obtain rfl:=List.mem_singleton.1 h;exact F64_zero
     · cases h
theorem sfacts_ok {S:Sto} (hG:StoGood S) (hr:SRoom S) (hx:SEx S):∀f∈sfacts S,fok f=true∧F64 f.ex:=fun f hf=>⟨sgo_fok _ _ _ (sgo_sfacts hG hr) f hf,ex_sfacts hx f hf⟩
theorem sreplay_rows {S:Sto} (hG:StoGood S) (hr:SRoom S) (hx:SEx S):sreplay ⟨S.node,0,[],[]⟩ ((sfacts S).map bytesF)=some S:=by
 rw[sreplay_bytes _ _ (sfacts_ok hG hr hx)];exact sgo_sfacts hG hr
theorem catch_idle_by (d x e : Addr) (w : World) (hd : w.cell? d = some (.bool true)) :
    CallsD Tryz.prog 265 #[.pointer (some d),.pointer (some x),.pointer (some e)] .returning w fun en u' w'=>en=.returned (.tuple #[])∧u'=.returning∧w'=w:=by
 refine callsD_of_wpS Tryz.func265 rfl fun c₀ cs hu=> ?_
 apply wpS_seq;apply wpS_region;simp[wpOpsS,go_sem,recoverD,hu,Tryz.ntmps265,Exit.thenS];apply wpS_seq;apply wpS_region;simp[wpOpsS,go_sem,hd,Exit.thenS];refine wpS_cond (t:=false) (by simp[Act.eval,Array.replicate]) ?_;simp only[Bool.false_eq_true,if_false];refine wpS_of_wp (wp_skip ?_)
 cases c₀
 simp_all [bodyPostS,results,Tryz.results265]
theorem try_gives_fbytes (p : Addr) (Rl : Value → World → Prop) (w : World) (h : ∀ W, Below w.heap.size w W → w.heap.size + 3 ≤ W.heap.size → Calls Tryz.prog 213 #[.pointer (some p)] W (fun e w' => ∃ a n c, e = .returned (.slice a n c) ∧ Rl (.slice a n c) w' ∧ Below W.heap.size W w'))
    (hR:∀v (W W':World),Rl v W→W.heap.size≤W'.heap.size→(∀k,k<w.heap.size∨w.heap.size+3≤k→W'.heap[k]? =W.heap[k]?)→Rl v W'):
    Calls Tryz.prog 212 #[.func (.func 213) #[] #[.pointer (some p)]] w (fun e w'=>∃a n c,e=.returned (.tuple #[.slice a n c,.nilIface])∧Rl (.slice a n c) w'∧Below w.heap.size w w'):=by
 have hmf:∀(fn:Fn) (first cap:Array Value) (w:World),(Instr.makeFunc fn first cap).run Tryz.prog w=.ok (.func fn first cap) w:=fun _ _ _ _=>rfl
 have H:=qq h;have HRL:=qq hR;clear h hR;go_enter_defers Tryz.func212,Tryz.ntmps212;go_wp2_with fail;refine(H.out _ (by go_grown) (by simp)).mono ?_;rintro e w1 ⟨va,vn,vc,rfl,hrl,hb1⟩;have HX:=(((Blk.fresh w #[.slice none 0 0] 65 _ rfl).below (by go_grown)).below hb1:Blk w1 w.heap.size _)
 have HE:=(((Blk.fresh (w.alloc (.cells #[.slice none 0 0] 65)) #[.nilIface] 26 (w.heap.size+1) (by simp)).below (by go_grown)).below hb1:Blk w1 (w.heap.size+1) _)
 have HD:=((Blk.fresh ((w.alloc (.cells #[.slice none 0 0] 65)).alloc (.cells #[.nilIface] 26)) #[.bool false] 4 (w.heap.size+1+1) (by simp)).below hb1:Blk w1 (w.heap.size+1+1) _)
 have x0:w1.cell? ⟨w.heap.size,0,none⟩=some (.slice none 0 0):=HX.cell 0;have x1:=HX.free 0;have e0:w1.cell? ⟨w.heap.size+1,0,none⟩=some .nilIface:=HE.cell 0;have e1:=HE.free 0;have d0:w1.cell? ⟨w.heap.size+1+1,0,none⟩=some (.bool false):=HD.cell 0;have d1:=HD.free 0;clear HX HE HD;have HB:Below w.heap.size w w1:=below_then (by go_grown) hb1;have HRR:=qq hrl;clear hrl;go_wp2_with fail
 refine leaves_cons (f:=265) (args:= #[.pointer (some ⟨w.heap.size+1+1,0,none⟩),.pointer (some ⟨w.heap.size,0,none⟩),.pointer (some ⟨w.heap.size+1,0,none⟩)]) (by simp) (by simp[go_sem]) ?_;refine(catch_idle_by _ _ _ _ (by simp[go_sem,d0,x0,e0])).mono ?_;rintro e u' w'' ⟨rfl,rfl,rfl⟩;simp[Leaves,settle,results,Tryz.results212,go_sem,d0,x0,e0,d1,x1,e1]
 refine⟨va,vn,vc,⟨rfl,rfl,rfl⟩,HRL.out _ _ _ HRR.out (by simp) (fun k hk=> ?_),(((HB.setCell (p:=⟨w.heap.size,0,none⟩) (Nat.le_refl _) _).setCell (p:=⟨w.heap.size+1+1,0,none⟩) (by dsimp only;omega) _).setCell (p:=⟨w.heap.size,0,none⟩) (Nat.le_refl _) _).setCell (p:=⟨w.heap.size+1,0,none⟩) (by dsimp only;omega) _⟩
 rw[Below.heap_setCell _ _ _ _ (by(try dsimp only);omega),Below.heap_setCell _ _ _ _ (by(try dsimp only);omega),Below.heap_setCell _ _ _ _ (by(try dsimp only);omega),Below.heap_setCell _ _ _ _ (by(try dsimp only);omega)]
theorem check_nil (w:World):Calls Tryz.prog 211 #[.nilIface] w (fun e w'=>e=.returned (.tuple #[])∧w=w'):=by
 go_enter Tryz.func211,Tryz.ntmps211;go_wp2_with fail;exact bodyPost_end (results_none rfl _ _ _) rfl ⟨rfl,rfl⟩
theorem must_of (a:Option Addr) (n c:Nat) (w:World):Calls Tryz.prog 109 #[.slice a n c,.nilIface] w (fun e w'=>e=.returned (.slice a n c)∧w=w'):=by
 have HC:=qq check_nil;go_enter Tryz.func109,Tryz.ntmps109;go_wp2_with fail;refine(HC.out _).mono ?_;rintro e w1 ⟨rfl,rfl⟩;go_wp2_with fail;go_ret;exact⟨rfl,rfl⟩
theorem pl_index (p i:Nat) (hi:i<13):∀w:World,(Instr.index 287 (.agg (plA p)) (.int .i64 (i:Int))).run Tryz.prog w=.ok (.pointer (some ⟨p,i,none⟩)) w:=by
 have h:∀j:Fin 13,∀w:World,(Instr.index 287 (.agg (plA p)) (.int .i64 (j.1:Int))).run Tryz.prog w=.ok (.pointer (some ⟨p,j.1,none⟩)) w:=by
  intro j
  match j with
  | 0 | 1 | 2 | 3 | 4 | 5 | 6 | 7 | 8 | 9 | 10 | 11 | 12=>exact fun w=>by kernel_rfl
 exact h ⟨i,hi⟩
theorem numsF_cell (f:SFact) (i:Nat) (n:Int) (h:(numsF f)[i]? =some n):(factC f)[i]? =some (.int .i64 n):=by
 unfold numsF at h
 match i,h with
 | 0,h | 1,h | 2,h | 3,h | 4,h | 5,h | 6,h | 7,h | 8,h | 9,h | 10,h | 11,h | 12,h=>injection h with h;subst h;rfl
 | k+13,h=>simp at h
theorem encN_append:∀(l m:List Int) (i:Nat),encN i (l ++m)=encN i l ++encN (i+l.length) m
 | [],m,i=>by simp[encN]
 | n::t,m,i=>by
  show oneF i n ++encN (i+1) (t ++m)=(oneF i n ++encN (i+1) t) ++_
  rw[encN_append t m (i+1),List.append_assoc];congr 3;simp;omega
theorem oneF_fld {i m:Nat} (h:m≠0):oneF i (m:Int)=[⟨i,numB m⟩]:=by
 unfold oneF;rw[if_neg (by omega)];rfl
theorem oneF_mem {i:Nat} {n:Int} (h:0≤n∧n≤999999) (hi:i≤255):∀x∈oneF i n,x.t≤255∧x.d≠[]∧∀c∈x.d,c<256:=by
 intro x hx;unfold oneF at hx;split at hx
 · cases hx
 · obtain rfl:=List.mem_singleton.1 hx;have:=numF_numB (n:=n.toNat) (by omega) (by omega);exact⟨hi,this.2.1,this.2.2.2⟩
theorem encN_mem:∀(l:List Int) (i:Nat),(∀n∈l,0≤n∧n≤999999)→i+l.length≤255→∀x∈encN i l,x.t≤255∧x.d≠[]∧∀c∈x.d,c<256
 | [],_,_,_,x,h=>by cases h
 | n::t,i,hn,hi,x,h=>by
  simp only[List.length_cons] at hi;rcases List.mem_append.1 h with h | h
  · exact oneF_mem (hn n (by simp)) (by omega) x h
  · exact encN_mem t (i+1) (fun m hm=>hn m (by simp[hm])) (by omega) x h
theorem encF_mem {f:SFact} (h:fok f=true) (hx:F64 f.ex):∀x∈encF f,x.t≤255∧x.d≠[]∧∀c∈x.d,c<256:=by
 intro x hm;unfold encF at hm;rcases List.mem_append.1 hm with hm | hm
 · exact encN_mem _ 1 (fok_nums h).1 (by show 1+13≤255;omega) x hm
 · split at hm
   · obtain rfl:=List.mem_singleton.1 hm;have:=fltF_fltB hx;exact⟨by show 14≤255;omega,(fun(e:fltB f.ex=[])=>by have h8:=this.2.1;rw[e] at h8;cases h8),this.2.2⟩
   · cases hm
def BytesEnds (f:SFact) (w:World) (e:Ending) (w':World):Prop:=∃a c,e=.returned (.slice a (bytesF f).length c)∧w'.ownsRow w.heap.size 5 1 (.slice a (bytesF f).length c) (bytesF f).length (bytesL (bytesF f))∧Below w.heap.size w w'
theorem bytes1_of (p:Nat) (f:SFact) (w:World) (hp:Blk w p (factC f)) (hok:fok f=true) (hx:F64 f.ex):Calls Tryz.prog 213 #[.pointer (some ⟨p,0,none⟩)] w (BytesEnds f w):=by
 obtain⟨i0,ei,ez,es,eb⟩:=info_parts infoFld;have HPL:=qq (fun W=>places_of p W);have HNU:=qq (fun n W (hn:n<9223372036854775808)=>number_of n hn W);have HMU:=qq must_of;have HFL:=qq (fun W=>floatB_of f.ex hx W);have HJO:=qq (fun a cap N W (hN:N=(encF f).length) (hF:ReadFlds W (.slice a N cap) (encF f)) (hl:N≤16)=>fjoin_of a cap N (encF f) W hN hF (encF_row hok hx).1 (encF_mem hok hx) hl)
 have HOK:=qq (fok_nums hok).1;have HLE:=qq (encF_row hok hx).2;have hpw:=hp.lt;have HCL:=qq (fun W (hW:Below w.heap.size w W)=>(hp.below hW).cell);have HIX:=qq (pl_index p);clear hp hok hx;go_enter Tryz.func213,Tryz.ntmps213;go_wp2_with fail;refine(HPL.out _).mono ?_;rintro e w1 ⟨rfl,hb1⟩;have HB1:=qq hb1;obtain⟨pl,hpl⟩:∃v,v=Value.agg (plA p):=⟨_,rfl⟩
 rw[←hpl] at HIX⊢;clear hb1 hpl;go_wp2_with fail;go_loopw [2,6] (fun u cc wr=>∃i:Nat,i≤13∧cc=.int .i64 (i:Int)∧Hid (∃vs,FldsAt w.heap.size u (encN 1 ((numsF f).take i)) vs wr)∧Hid (Below w.heap.size w wr)) (fun _ cc _=>13 - (intOf cc).toNat)
 case atStart=>exact⟨0,by omega,by first | rfl | go_num,qq ⟨[],FldsAt.nil _ _⟩,HB1⟩
 case round=>
  obtain⟨i,hi,rfl,⟨vs,hfl⟩,HB⟩:=hrel;have HF:=qq hfl;obtain⟨ua,uc,hu⟩:=row_slice hfl.row;subst hu;obtain⟨nu,hnu⟩:∃x,x=(encN 1 ((numsF f).take i)).length:=⟨_,rfl⟩
  have hnu2:nu≤13:=by have h1:=encN_len ((numsF f).take i) 1;rw[List.length_take] at h1;omega
  rw[←hnu] at HF⊢;have HNUL:=qq hnu;clear hfl hnu;have hi0:(0:Int)≤(i:Int):=by omega
  by_cases hlt:i<13
  · have hi1:(i:Int)<13:=by omega
    obtain⟨n,hn⟩:∃n,(numsF f)[i]? =some n:=⟨_,List.getElem?_eq_getElem (by exact hlt)⟩
    have hn2:=HOK.out n (List.mem_of_getElem? hn);obtain⟨m,rfl⟩:∃m:Nat,n=(m:Int):=⟨n.toNat,by omega⟩
    have c0:wr.cell? ⟨p,i,none⟩=some (.int .i64 (m:Int)):=(HCL.out _ HB.out i).trans (numsF_cell f i _ hn);have HTK:Hid (encN 1 ((numsF f).take (i+1))=encN 1 ((numsF f).take i) ++oneF (i+1) (m:Int)):=qq (by
      obtain⟨hil,he⟩:=List.getElem?_eq_some_iff.1 hn;rw[List.take_succ_eq_append_getElem hil,he,encN_append,List.length_take,Nat.min_eq_left (Nat.le_of_lt hil)];show _ ++(oneF (1+i) m ++ [])=_
      rw[List.append_nil,Nat.add_comm])
    have hix:=HIX.out i hlt;clear hn;by_cases hm:m=0
    · subst hm;have hz:oneF (i+1) ((0:Nat):Int)=[]:=rfl;rw[hz,List.append_nil] at HTK;clear hz;go_wp2_with fail;go_roundw
      case rel=>exact⟨i+1,by omega,by go_num,qq ⟨vs,by rw[HTK.out];exact HF.out⟩,HB⟩
      case measure=>simp[intOf];omega
    · have hmb:((m:Int)==0)=false:=by simpa using hm
      have hmc:((m:Int) !=0)=true:=by simpa using hm
      rw[oneF_fld hm] at HTK;have HNM:=qq (fun W=>HNU.out m W (by omega));clear hn2;go_wp2_with fail;refine(HNM.out _).mono ?_;rintro e w3 ⟨nv,rfl,hown,hb3⟩;obtain⟨na,nc,rfl⟩:=row_slice hown;have HOW:=qq hown;have HB3:=qq (below_then HB.out hb3);have HF3:=qq (HF.out.heap (w':=w3) (fun k _ hk=>hb3.block k hk));have hwr:=HB.out.size;have hw3:=hb3.size;obtain⟨nd,hnd⟩:∃x,x=(numB m).length:=⟨_,rfl⟩
      have HND:=qq hnd;rw[←hnd] at HOW⊢;clear hown hb3 hnd;go_wp2_with fail;refine(HMU.out na nd nc _).mono ?_;rintro e w4 ⟨rfl,rfl⟩;have hal:=(Below.refl w3.heap.size w3).alloc (Nat.le_refl _) (.cells #[.int .i64 ((i:Int)+1),.slice na nd nc] 184);have HFA:=qq (HF3.out.heap (fun k _ hkl=>hal.block k hkl));have HDA:=qq (row_be HOW.out hal);have HBA:=qq (below_then HB3.out hal)
      have hza:w.heap.size≤(w3.alloc (.cells #[.int .i64 ((i:Int)+1),.slice na nd nc] 184)).heap.size:=by simp;omega
      have hrow:(w3.alloc (.cells #[.int .i64 ((i:Int)+1),.slice na nd nc] 184)).ownsRow w.heap.size 184 2 (.slice ua nu uc) nu (fldsL (encN 1 ((numsF f).take i)) vs):=by have:=HFA.out.row;rw[←HNUL.out] at this;exact this
      clear hal
      go_wp2_with (at_builtin;refine wpList_append_own_at _ rfl _ _ 179 rfl w.heap.size 184 i0 (.agg #[.int .i64 0,.slice none 0 0]) 2 32 Tryz.underlying179 ei ez es eb rfl (by decide) _ _ _ rfl hrow ⟨w3.heap.size,0,none⟩ 1 1 [.int .i64 ((i:Int)+1),.slice na nd nc] (by rfl) rfl (lit_cells (Blk.fresh _ _ _ _ rfl)) (fun u hu=>by simp only[List.mem_cons,List.not_mem_nil,or_false] at hu;rcases hu with rfl | rfl<;>rfl) ?d3 ?d4 ?d5 ?_)
      case d3=>unfold maxLen;omega
      case d4=>omega
      case d5=>exact hza
      intro v2 w6 hown hgrow _ hat;have hsn:=HFA.out.snoc (x:=⟨i+1,numB m⟩) (dv:=.slice na nd nc) (row_mono (B':=wr.heap.size) (by dsimp only;rw[←HND.out];exact HDA.out) (by omega)) (fun k hk e=>by have h1:=(HOW.out.lt k hk).1;have h2:=(HF.out.row.lt k e).2;omega) (by rw[←HNUL.out];exact hown) (by exact hgrow) (by rw[World.size_alloc];exact hat);have HSN:=qq hsn
      have HB6:=qq (HBA.out.grown hgrow HBA.out.size (fun j hj=>(HF.out.row.lt j hj).1));clear hown hgrow hat hsn hrow hza;go_wp2_with fail;go_roundw
      case rel=>exact⟨i+1,by omega,by go_num,qq ⟨_,by rw[HTK.out];exact HSN.out⟩,HB6⟩
      case measure=>simp[intOf];omega
  · obtain rfl:i=13:=by omega
    have hall:encN 1 ((numsF f).take 13)=encN 1 (numsF f):=rfl;rw[hall] at HF HNUL;clear hall hlt HIX;have c0:wr.cell? ⟨p,0,none⟩=some (.int .i64 f.k):=HCL.out _ HB.out 0;have c13:wr.cell? ⟨p,13,none⟩=some (.float .f64 f.ex):=HCL.out _ HB.out 13;have hwr:=HB.out.size;by_cases hk:f.k=1
    · have HEN:Hid (encF f=encN 1 (numsF f) ++ [⟨14,fltB f.ex⟩]):=qq (by unfold encF;rw[if_pos hk]);rw[hk] at c0;clear hk;go_wp2_with fail;refine(HFL.out _).mono ?_;rintro e w3 ⟨rfl,hown,hb3⟩;have HOW:=qq hown;have HB3:=qq (below_then HB.out hb3);have HF3:=qq (HF.out.heap (w':=w3) (fun k _ hk=>hb3.block k hk));have hw3:=hb3.size;obtain⟨fbk,hfbk⟩:∃x,x=wr.heap.size:=⟨_,rfl⟩
      have HFBK:=qq hfbk;rw[←hfbk] at HOW⊢;clear hown hb3 hfbk;have hal:=(Below.refl w3.heap.size w3).alloc (Nat.le_refl _) (.cells #[.int .i64 14,.slice (some ⟨fbk,0,none⟩) 8 8] 184);have HFA:=qq (HF3.out.heap (fun k _ hkl=>hal.block k hkl));have HDA:=qq (row_be HOW.out hal);have HBA:=qq (below_then HB3.out hal)
      have hza:w.heap.size≤(w3.alloc (.cells #[.int .i64 14,.slice (some ⟨fbk,0,none⟩) 8 8] 184)).heap.size:=by simp;omega
      have hrow:(w3.alloc (.cells #[.int .i64 14,.slice (some ⟨fbk,0,none⟩) 8 8] 184)).ownsRow w.heap.size 184 2 (.slice ua nu uc) nu (fldsL (encN 1 (numsF f)) vs):=by have:=HFA.out.row;rw[←HNUL.out] at this;exact this
      clear hal
      go_wp2_with (at_builtin;refine wpList_append_own_at _ rfl _ _ 179 rfl w.heap.size 184 i0 (.agg #[.int .i64 0,.slice none 0 0]) 2 32 Tryz.underlying179 ei ez es eb rfl (by decide) _ _ _ rfl hrow ⟨w3.heap.size,0,none⟩ 1 1 [.int .i64 14,.slice (some ⟨fbk,0,none⟩) 8 8] (by rfl) rfl (lit_cells (Blk.fresh _ _ _ _ rfl)) (fun u hu=>by simp only[List.mem_cons,List.not_mem_nil,or_false] at hu;rcases hu with rfl | rfl<;>rfl) ?g3 ?g4 ?g5 ?_)
      case g3=>unfold maxLen;omega
      case g4=>omega
      case g5=>exact hza
      intro v2 w6 hown hgrow _ hat;have hsn:=HFA.out.snoc (x:=⟨14,fltB f.ex⟩) (dv:=.slice (some ⟨fbk,0,none⟩) 8 8) (row_mono (B':=fbk) (by exact HDA.out) (by have:=HFBK.out;omega)) (fun k hk e=>by have h1:=(HOW.out.lt k hk).1;have h2:=(HF.out.row.lt k e).2;have h3:=HFBK.out;omega) (by rw[←HNUL.out];exact hown) (by exact hgrow) (by rw[World.size_alloc];exact hat);rw[←HEN.out] at hsn
      have hle:nu+1=(encF f).length:=by rw[HEN.out,List.length_append,←HNUL.out];rfl
      have HLN:=qq hle;obtain⟨ua6,uc6,hu6⟩:=row_slice hown;subst hu6;have HF6:=qq hsn;have HB6:=qq (HBA.out.grown hgrow HBA.out.size (fun j hj=>(HF.out.row.lt j hj).1));clear hown hgrow hat hsn hrow hza hle HEN;have HEN:Hid ((encF f).length=nu+1):=qq HLN.out.symm;have HJ:=qq (HJO.out _ _ (nu+1) w6 (by rw[HEN.out]) (read_flds HF6.out) (by omega));go_wp2_with fail;refine HJ.out.mono ?_
      rintro e w8 ⟨jv,rfl,hown,hb8⟩;obtain⟨ja,jc,rfl⟩:=row_slice hown;have HOW:=qq (row_mono hown HB6.out.size);have HB8:=qq (below_then HB6.out hb8);clear hown hb8;obtain⟨nj,hnj⟩:∃x,x=(joinB (encF f)).length:=⟨_,rfl⟩
      rw[←hnj] at HOW⊢;have HNJ:Hid ((bytesF f).length=nj):=qq hnj.symm;clear hnj;go_wp2_with fail;refine(HMU.out ja nj jc _).mono ?_;rintro e w9 ⟨rfl,rfl⟩;go_wp2_with fail;go_ret;exact⟨ja,jc,by rw[HNJ.out];rfl,by rw[HNJ.out];exact HOW.out,HB8.out⟩
    · have HEN0:Hid (encF f=encN 1 (numsF f)):=qq (by unfold encF;rw[if_neg hk,List.append_nil]);have HEN:Hid ((encF f).length=nu):=qq (by rw[HEN0.out];exact HNUL.out.symm);have HF6:Hid (FldsAt w.heap.size (.slice ua nu uc) (encF f) vs wr):=qq (by rw[HEN0.out];exact HF.out);have hkb:(f.k==1)=false:=by simpa using hk
      have HJ:=qq (HJO.out _ _ nu wr (by rw[HEN.out]) (read_flds HF6.out) (by omega));go_wp2_with fail;refine HJ.out.mono ?_;rintro e w8 ⟨jv,rfl,hown,hb8⟩;obtain⟨ja,jc,rfl⟩:=row_slice hown;have HOW:=qq (row_mono hown HB.out.size);have HB8:=qq (below_then HB.out hb8);clear hown hb8;obtain⟨nj,hnj⟩:∃x,x=(joinB (encF f)).length:=⟨_,rfl⟩
      rw[←hnj] at HOW⊢;have HNJ:Hid ((bytesF f).length=nj):=qq hnj.symm;clear hnj;go_wp2_with fail;refine(HMU.out ja nj jc _).mono ?_;rintro e w9 ⟨rfl,rfl⟩;go_wp2_with fail;go_ret;exact⟨ja,jc,by rw[HNJ.out];rfl,by rw[HNJ.out];exact HOW.out,HB8.out⟩
theorem fbytes_of (f:SFact) (ea:Int→Addr) (w:World) (hE:EnvS ea w) (hok:fok f=true) (hx:F64 f.ex):Calls Tryz.prog 110 #[factV f] w (fun e w'=>∃a c,e=.returned (.tuple #[.slice a (bytesF f).length c,.nilIface])∧w'.ownsRow w.heap.size 5 1 (.slice a (bytesF f).length c) (bytesF f).length (bytesL (bytesF f))∧Below w.heap.size w w'):=by
 have hmf:∀(fn:Fn) (first cap:Array Value) (w:World),(Instr.makeFunc fn first cap).run Tryz.prog w=.ok (.func fn first cap) w:=fun _ _ _ _=>rfl
 have HRI:=qq (fun W (hW:Below w.heap.size w W)=>(hok▸factRight_of f hx ea W (hE.below hW):Calls Tryz.prog 83 #[factV f] W (Makes (.bool true) W)));have HTR:=qq (fun(W:World) (hW:Below w.heap.size w W) (hB:Blk W w.heap.size (factC f))=>try_gives_fbytes ⟨w.heap.size,0,none⟩ (fun v W'=>∃a c,v=.slice a (bytesF f).length c∧W'.ownsRow (W.heap.size+3) 5 1 v (bytesF f).length (bytesL (bytesF f))) W
   (fun W' hW' hz=>(bytes1_of w.heap.size f W' (hB.below hW') hok hx).mono fun e w' he=>by
     obtain⟨a,c,h1,h2,h3⟩:=he;exact⟨a,_,c,h1,⟨a,c,rfl,row_mono h2 hz⟩,h3⟩)
   (fun v W1 W2 h hz hk=>by
     obtain⟨a,c,h1,h2⟩:=h;exact⟨a,c,h1,row_heap h2 (fun k hk1=>hk k (.inr (h2.lt k hk1).1))⟩))
 have HK:=qq (Blk.fresh w (factC f) 39 _ rfl);have HB0:Hid (Below w.heap.size w (w.alloc (.cells (factC f) 39))):=qq (by go_grown);clear hE hok hx;obtain⟨k,an,aq,rg,nd,pt,pr,oc,dp,pa,st,hw,de,ex⟩:=f;simp only[factV,factC] at*;go_enter Tryz.func110,Tryz.ntmps110;go_wp2_with fail;refine(HRI.out _ HB0.out).mono ?_;rintro e w1 ⟨rfl,hb1⟩;have HK1:=qq (HK.out.below hb1)
 have HB1:=qq (below_then HB0.out hb1);have hz1:=HB1.out.size;clear hb1;go_wp2_with fail;refine(HTR.out _ HB1.out HK1.out).mono ?_;rintro e w2 ⟨va,vn,vc,rfl,⟨va2,vc2,hv,hrow⟩,hb2⟩;injection hv with hv1 hv2 hv3
 subst hv1 hv2 hv3;have HB2:=qq (below_then HB1.out hb2);have HR2:=qq (row_mono (B:=w.heap.size) hrow (by omega));clear hb2 hrow;obtain⟨nj,hnj⟩:∃x,x=(bytesF ⟨k,an,aq,rg,nd,pt,pr,oc,dp,pa,st,hw,de,ex⟩).length:=⟨_,rfl⟩
 have HNJ:=qq hnj;rw[←hnj] at HR2;simp only[←hnj];clear hnj;go_wp2_with fail;refine bodyPost_ret (v:=.tuple #[.slice va nj vc,.nilIface]) (by simp[results,Tryz.results110,go_sem]) rfl ?_;rw[HNJ.out] at HR2⊢;exact⟨va,vc,rfl,HR2.out,HB2.out⟩
theorem catch_idle_rs (d x e : Addr) (w : World) (hd : w.cell? d = some (.bool true)) :
    CallsD Tryz.prog 209 #[.pointer (some d),.pointer (some x),.pointer (some e)] .returning w fun en u' w'=>en=.returned (.tuple #[])∧u'=.returning∧w'=w:=by
 refine callsD_of_wpS Tryz.func209 rfl fun c₀ cs hu=> ?_
 apply wpS_seq;apply wpS_region;simp[wpOpsS,go_sem,recoverD,hu,Tryz.ntmps209,Exit.thenS];apply wpS_seq;apply wpS_region;simp[wpOpsS,go_sem,hd,Exit.thenS];refine wpS_cond (t:=false) (by simp[Act.eval,Array.replicate]) ?_;simp only[Bool.false_eq_true,if_false];refine wpS_of_wp (wp_skip ?_)
 cases c₀
 simp_all [bodyPostS,results,Tryz.results209]
theorem try_gives_frows (p : Addr) (Rl : Value → World → Prop) (w : World) (h : ∀ W, Below w.heap.size w W → w.heap.size + 3 ≤ W.heap.size → Calls Tryz.prog 108 #[.pointer (some p)] W (fun e w' => ∃ a n c, e = .returned (.slice a n c) ∧ Rl (.slice a n c) w' ∧ Below W.heap.size W w'))
    (hR:∀v (W W':World),Rl v W→W.heap.size≤W'.heap.size→(∀k,k<w.heap.size∨w.heap.size+3≤k→W'.heap[k]? =W.heap[k]?)→Rl v W'):
    Calls Tryz.prog 107 #[.func (.func 108) #[] #[.pointer (some p)]] w (fun e w'=>∃a n c,e=.returned (.tuple #[.slice a n c,.nilIface])∧Rl (.slice a n c) w'∧Below w.heap.size w w'):=by
 have hmf:∀(fn:Fn) (first cap:Array Value) (w:World),(Instr.makeFunc fn first cap).run Tryz.prog w=.ok (.func fn first cap) w:=fun _ _ _ _=>rfl
 have H:=qq h;have HRL:=qq hR;clear h hR;go_enter_defers Tryz.func107,Tryz.ntmps107;go_wp2_with fail;refine(H.out _ (by go_grown) (by simp)).mono ?_;rintro e w1 ⟨va,vn,vc,rfl,hrl,hb1⟩;have HX:=(((Blk.fresh w #[.slice none 0 0] 64 _ rfl).below (by go_grown)).below hb1:Blk w1 w.heap.size _)
 have HE:=(((Blk.fresh (w.alloc (.cells #[.slice none 0 0] 64)) #[.nilIface] 26 (w.heap.size+1) (by simp)).below (by go_grown)).below hb1:Blk w1 (w.heap.size+1) _)
 have HD:=((Blk.fresh ((w.alloc (.cells #[.slice none 0 0] 64)).alloc (.cells #[.nilIface] 26)) #[.bool false] 4 (w.heap.size+1+1) (by simp)).below hb1:Blk w1 (w.heap.size+1+1) _)
 have x0:w1.cell? ⟨w.heap.size,0,none⟩=some (.slice none 0 0):=HX.cell 0;have x1:=HX.free 0;have e0:w1.cell? ⟨w.heap.size+1,0,none⟩=some .nilIface:=HE.cell 0;have e1:=HE.free 0;have d0:w1.cell? ⟨w.heap.size+1+1,0,none⟩=some (.bool false):=HD.cell 0;have d1:=HD.free 0;clear HX HE HD;have HB:Below w.heap.size w w1:=below_then (by go_grown) hb1;have HRR:=qq hrl;clear hrl;go_wp2_with fail
 refine leaves_cons (f:=209) (args:= #[.pointer (some ⟨w.heap.size+1+1,0,none⟩),.pointer (some ⟨w.heap.size,0,none⟩),.pointer (some ⟨w.heap.size+1,0,none⟩)]) (by simp) (by simp[go_sem]) ?_;refine(catch_idle_rs _ _ _ _ (by simp[go_sem,d0,x0,e0])).mono ?_;rintro e u' w'' ⟨rfl,rfl,rfl⟩;simp[Leaves,settle,results,Tryz.results107,go_sem,d0,x0,e0,d1,x1,e1]
 refine⟨va,vn,vc,⟨rfl,rfl,rfl⟩,HRL.out _ _ _ HRR.out (by simp) (fun k hk=> ?_),(((HB.setCell (p:=⟨w.heap.size,0,none⟩) (Nat.le_refl _) _).setCell (p:=⟨w.heap.size+1+1,0,none⟩) (by dsimp only;omega) _).setCell (p:=⟨w.heap.size,0,none⟩) (Nat.le_refl _) _).setCell (p:=⟨w.heap.size+1,0,none⟩) (by dsimp only;omega) _⟩
 rw[Below.heap_setCell _ _ _ _ (by(try dsimp only);omega),Below.heap_setCell _ _ _ _ (by(try dsimp only);omega),Below.heap_setCell _ _ _ _ (by(try dsimp only);omega),Below.heap_setCell _ _ _ _ (by(try dsimp only);omega)]
theorem infoRow:(Tryz.prog.info? 65).map (fun i=>(i.zero,i.size,i.bytes))=some (some (.slice none 0 0),1,24):=by kernel_rfl
structure BRows (B:Nat) (v:Value) (xs:List (List Nat)) (vs:List Value) (w:World):Prop where
 len:vs.length=xs.length
 row:w.ownsRow B 65 1 v xs.length vs
 data:∀(i:Nat) (x:List Nat) (dv:Value),xs[i]? =some x→vs[i]? =some dv→w.ownsRow B 5 1 dv x.length (bytesL x)
 apart:∀dv∈vs,∀k,dv.ownBlock=some k→v.ownBlock≠some k
theorem BRows.nil (B:Nat) (w:World):BRows B (.slice none 0 0) [] [] w:=⟨rfl,World.ownsRow_nil _ _ _ _,fun i x dv h=>by simp at h,fun x h=>by cases h⟩
theorem BRows.heap {B:Nat} {v:Value} {xs:List (List Nat)} {vs:List Value} {w w':World} (h:BRows B v xs vs w) (he:∀k,B≤k→k<w.heap.size→w'.heap[k]? =w.heap[k]?):BRows B v xs vs w':=
 ⟨h.len,row_heap h.row (fun k hk=>he k (h.row.lt k hk).1 (h.row.lt k hk).2),fun i x dv h1 h2=>row_heap (h.data i x dv h1 h2) (fun k hk=>he k ((h.data i x dv h1 h2).lt k hk).1 ((h.data i x dv h1 h2).lt k hk).2),h.apart⟩
theorem BRows.snoc {B : Nat} {v v2 : Value} {xs : List (List Nat)} {vs : List Value} {w w2 : World} {x : List Nat} {dv : Value} (h : BRows B v xs vs w) (hx : w.ownsRow B 5 1 dv x.length (bytesL x)) (hax : ∀ k, dv.ownBlock = some k → v.ownBlock ≠ some k)
    (hr:w2.ownsRow B 65 1 v2 (xs.length+1) (vs ++ [dv])) (hg:w.grownBy w2 v.ownBlock) (hat:v2.ownBlock=v.ownBlock∨v2.ownBlock=some w.heap.size):BRows B v2 (xs ++ [x]) (vs ++ [dv]) w2:=by
 have keep:∀(u:Value) (n:Nat) (l:List Value),w.ownsRow B 5 1 u n l→(∀k,u.ownBlock=some k→v.ownBlock≠some k)→w2.ownsRow B 5 1 u n l:=fun u n l h1 h2=>
  row_heap h1 (fun k hk=>hg.block k (h1.lt k hk).2 (fun e=>h2 k hk e.symm))
 have apart2:∀(u:Value) (n:Nat) (l:List Value),w.ownsRow B 5 1 u n l→(∀k,u.ownBlock=some k→v.ownBlock≠some k)→∀k,u.ownBlock=some k→v2.ownBlock≠some k:=fun u n l h1 h2 k hk e=>by
  rcases hat with h3 | h3
  · exact h2 k hk (by rw[←h3];exact e)
  · have:=(h1.lt k hk).2;rw[h3] at e;injection e with e
    omega
 have hl:=h.len;refine⟨by simp[h.len],by rw[List.length_append];exact hr,fun i y u h1 h2=> ?_,fun u hu k hk=> ?_⟩
 · by_cases hi:i<xs.length
   · rw[List.getElem?_append_left hi] at h1;rw[List.getElem?_append_left (by omega)] at h2;exact keep _ _ _ (h.data i y u h1 h2) (h.apart u (List.mem_of_getElem? h2))
   · rw[List.getElem?_append_right (by omega)] at h1;rw[List.getElem?_append_right (by omega),hl] at h2;have e0:i - xs.length=0:=by
      rcases Nat.eq_zero_or_pos (i - xs.length) with e | e
      · exact e
      · rw[List.getElem?_eq_none (by simp;omega)] at h1;cases h1
     rw[e0] at h1 h2;simp at h1 h2;subst h1 h2;exact keep _ _ _ hx hax
 · rcases List.mem_append.1 hu with hu | hu
   · obtain⟨i,hi,rfl⟩:=List.getElem_of_mem hu;exact apart2 _ _ _ (h.data i xs[i] vs[i] (List.getElem?_eq_getElem (by omega)) (List.getElem?_eq_getElem hi)) (h.apart _ hu) k hk
   · obtain rfl:=List.mem_singleton.1 hu;exact apart2 _ _ _ hx hax k hk
theorem BRows.mono {B B':Nat} {v:Value} {xs:List (List Nat)} {vs:List Value} {w:World} (h:BRows B' v xs vs w) (hb:B≤B'):BRows B v xs vs w:=⟨h.len,row_mono h.row hb,fun i x dv h1 h2=>row_mono (h.data i x dv h1 h2) hb,h.apart⟩
theorem rf_be {w w':World} {v:Value} {fs:List SFact} (h:ReadFacts w v fs) (hb:Below w.heap.size w w'):ReadFacts w' v fs:=by
 obtain⟨a,cap,rfl,h⟩:=h;refine⟨a,cap,rfl,fun hn=> ?_⟩;obtain⟨b,off,rfl,hb',hf⟩:=h hn;exact⟨b,off,rfl,Nat.lt_of_lt_of_le hb' hb.size,fun j hj=>(hf j hj).below hb hb'⟩
theorem bytesF_byte {f:SFact} (h:fok f=true) (hx:F64 f.ex):∀c∈bytesF f,c<256:=by
 intro c hc;unfold bytesF joinB at hc;obtain⟨x,hm,hc⟩:=List.mem_flatMap.1 hc;have h1:=encF_mem h hx x hm;have h2:=rowOk_all _ _ (encF_row h hx).1 x hm;simp only[List.mem_cons] at hc;rcases hc with rfl | rfl | rfl | hc
 · omega
 · omega
 · omega
 · exact h1.2.2 c hc
theorem BRows.read {B:Nat} {v:Value} {xs:List (List Nat)} {vs:List Value} {w:World} (h:BRows B v xs vs w) (hb:∀x∈xs,∀c∈x,c<256):∃a cap,v=.slice a xs.length cap∧RowsIn w a xs:=by
 obtain⟨a,cap,hv⟩:=row_slice h.row;subst hv;refine⟨a,cap,rfl,fun k r hk=> ?_⟩;have hkl:=(List.getElem?_eq_some_iff.1 hk).1;obtain⟨g,cap',hv,_,_,hg,hc,_⟩:=row_form h.row (by omega);simp only[Value.slice.injEq,true_and] at hv;obtain⟨rfl,rfl⟩:=hv;obtain⟨dv,hd⟩:∃dv,vs[k]? =some dv:=⟨_,List.getElem?_eq_getElem (by rw[h.len];exact hkl)⟩
 have hdr:=h.data k r dv hk hd;obtain⟨da,dc,hdv⟩:=row_slice hdr;subst hdv;refine⟨g,0,da,dc,rfl,hg,by rw[Nat.zero_add];exact hc k _ hd,?_,hb r (List.mem_of_getElem? hk),fun hn=> ?_⟩
 · rcases hdr.2 with⟨hv,hz⟩ | ⟨g2,c2,cur,hv,_,_,hle,_⟩
   · rw[hz];exact Nat.zero_le _
   · injection hv with _ _ hv
     rw[hv];exact hle
 · obtain⟨g2,c2,hv,_,_,hg2,hc2,_⟩:=row_form hdr (List.length_pos_iff.2 hn);simp only[Value.slice.injEq,true_and] at hv;obtain⟨rfl,rfl⟩:=hv;refine⟨g2,0,rfl,hg2,fun j c hj=> ?_⟩;rw[Nat.zero_add];refine hc2 j _ ?_;unfold bytesL;rw[List.getElem?_map,hj];rfl
def RowsEnds (fs:List SFact) (w:World) (e:Ending) (w':World):Prop:=∃a n c vs,e=.returned (.slice a n c)∧BRows w.heap.size (.slice a n c) (fs.map bytesF) vs w'∧Below w.heap.size w w'
theorem rows1_of (p N : Nat) (a : Option Addr) (cap : Nat) (fs : List SFact) (ea : Int → Addr) (w0 w : World) (hE : EnvS ea w0) (hb0 : Below w0.heap.size w0 w) (hp : Blk w p #[.slice a N cap]) (hN : N = fs.length) (hF : ReadFacts w (.slice a N cap) fs) (hok : ∀ f ∈ fs, fok f = true ∧ F64 f.ex) (hl : N ≤ 1000) :
    Calls Tryz.prog 108 #[.pointer (some ⟨p,0,none⟩)] w (RowsEnds fs w):=by
 obtain⟨i0,ei,ez,es,eb⟩:=info_parts infoRow;obtain⟨a2,cap2,hv,hr⟩:=hF;simp only[Value.slice.injEq] at hv;obtain⟨rfl,-,rfl⟩:=hv;have HRF:=qq hr;have HNN:=qq hN;have HOK:=qq hok;have HBY:=qq (fun f (hf:f∈fs) W (hW:Below w.heap.size w W)=>fbytes_of f ea W (hE.below (hb0.trans (hW.mono hb0.size))) (hok f hf).1 (hok f hf).2);have HMU:=qq must_of;obtain⟨lp,qp,fp⟩:=hp;clear hr hN hok hE hb0
 go_enter Tryz.func108,Tryz.ntmps108;go_wp2_with fail;go_loopw [2,7] (fun u cc wr=>∃i:Nat,i≤N∧cc=.int .i64 (i:Int)∧Hid (∃vs,BRows w.heap.size u ((fs.take i).map bytesF) vs wr)∧Hid (Below w.heap.size w wr)) (fun _ cc _=>N - (intOf cc).toNat)
 case atStart=>exact⟨0,by omega,by first | rfl | go_num,qq ⟨[],BRows.nil _ _⟩,qq (Below.refl _ _)⟩
 case round=>
  obtain⟨i,hi,rfl,⟨vs,hfl⟩,HB⟩:=hrel;have HF:=qq hfl;have hlen:((fs.take i).map bytesF).length=i:=by rw[List.length_map,List.length_take];have:=HNN.out;omega
  obtain⟨ua,uc,hu⟩:=row_slice hfl.row;rw[hlen] at hu;subst hu;have hi0:(0:Int)≤(i:Int):=by omega
  have HLEN:=qq hlen;clear hfl hlen;by_cases hlt:i<N
  · have hi1:(i:Int)<(N:Int):=by omega
    have hil:i<fs.length:=by have:=HNN.out;omega
    obtain⟨f,hf⟩:∃f,f=fs[i]:=⟨_,rfl⟩
    have hmem:f∈fs:=by rw[hf];exact List.getElem_mem hil
    obtain⟨b,off,rfl,hbl,hcs⟩:=HRF.out (by intro e;rw[e] at hil;cases hil);have hfa:=hcs i hil;rw[←hf] at hfa;have HTK:Hid ((fs.take (i+1)).map bytesF=(fs.take i).map bytesF ++ [bytesF f]):=qq (by rw[List.take_succ_eq_append_getElem hil,List.map_append,hf];rfl);have HBF:=qq (HBY.out f hmem);have hfw:=hfa.below HB.out hbl;have hwr:=HB.out.size;obtain⟨k2,an,aq,rg,nd,pt,pr,oc,dp,pa,st,hw,de,ex⟩:=f
    unfold FactAt at hfw;obtain⟨c0,c1,c2,c3,c4,c5,c6,c7,c8,c9,c10,c11,c12,c13⟩:=hfw;dsimp only at c0 c1 c2 c3 c4 c5 c6 c7 c8 c9 c10 c11 c12 c13;simp only[factV,factC] at HBF;have HB0:=qq (bel_alloc HB.out (.cells #[k2,an,aq,rg,nd,pt,pr,oc,dp,pa,st,hw,de,.float .f64 ex] 39))
    have HF0:=qq (HF.out.heap (w':=wr.alloc (.cells #[k2,an,aq,rg,nd,pt,pr,oc,dp,pa,st,hw,de,.float .f64 ex] 39)) (fun k _ hkl=>((Below.refl wr.heap.size wr).alloc (Nat.le_refl _) _).block k hkl));clear hf hmem hfa hlt hil hcs;go_wp2_with fail;refine(HBF.out _ HB0.out).mono ?_;rintro e w3 ⟨na,nc,rfl,hown,hb3⟩;have HOW:=qq hown;have HB3:=qq (below_then HB0.out hb3)
    have HF3:=qq (HF0.out.heap (w':=w3) (fun k _ hk=>hb3.block k hk));have hw3:=hb3.size;rw[World.size_alloc] at hw3;obtain⟨nl,hnl⟩:∃x,x=(bytesF ⟨k2,an,aq,rg,nd,pt,pr,oc,dp,pa,st,hw,de,ex⟩).length:=⟨_,rfl⟩
    have HNL:=qq hnl;rw[←hnl] at HOW⊢;clear hown hb3 hnl c0 c1 c2 c3 c4 c5 c6 c7 c8 c9 c10 c11 c12 c13;go_wp2_with fail;refine(HMU.out na nl nc _).mono ?_;rintro e w4 ⟨rfl,rfl⟩;have hal:=(Below.refl w3.heap.size w3).alloc (Nat.le_refl _) (.cells #[.slice na nl nc] 65);have HFA:=qq (HF3.out.heap (fun k _ hkl=>hal.block k hkl));have HDA:=qq (row_be HOW.out hal);have HBA:=qq (below_then HB3.out hal)
    have hza:w.heap.size≤(w3.alloc (.cells #[.slice na nl nc] 65)).heap.size:=by simp;omega
    have hrow:(w3.alloc (.cells #[.slice na nl nc] 65)).ownsRow w.heap.size 65 1 (.slice ua i uc) i vs:=by have:=HFA.out.row;rw[HLEN.out] at this;exact this
    clear hal;go_wp2_with (at_builtin;refine wpList_append_own_at _ rfl _ _ 64 rfl w.heap.size 65 i0 (.slice none 0 0) 1 24 Tryz.underlying64 ei ez es eb rfl (by decide) _ _ _ rfl hrow ⟨w3.heap.size,0,none⟩ 1 1 [.slice na nl nc] (by rfl) rfl (lit_cells (Blk.fresh _ _ _ _ rfl)) (fun u hu=>by obtain rfl:=List.mem_singleton.1 hu;rfl) ?d3 ?d4 ?d5 ?_)
    case d3=>unfold maxLen;omega
    case d4=>omega
    case d5=>exact hza
    intro v2 w6 hown hgrow _ hat
    have hsn:=HFA.out.snoc (x:=bytesF ⟨k2,an,aq,rg,nd,pt,pr,oc,dp,pa,st,hw,de,ex⟩) (dv:=.slice na nl nc) (row_mono (B':=(wr.alloc (.cells #[k2,an,aq,rg,nd,pt,pr,oc,dp,pa,st,hw,de,.float .f64 ex] 39)).heap.size) (by rw[←HNL.out];exact HDA.out) (by rw[World.size_alloc];omega)) (fun k hk e=>by have h1:=(HOW.out.lt k hk).1;have h2:=(HF.out.row.lt k e).2;rw[World.size_alloc] at h1;omega) (by rw[HLEN.out];exact hown) (by exact hgrow) (by rw[World.size_alloc];exact hat)
    rw[←HTK.out] at hsn;have HSN:=qq hsn;have HB6:=qq (HBA.out.grown hgrow HBA.out.size (fun j hj=>(HF.out.row.lt j hj).1));clear hown hgrow hat hsn hrow hza;go_wp2_with fail;go_roundw
    case rel=>exact⟨i+1,by omega,by go_num,qq ⟨_,HSN.out⟩,HB6⟩
    case measure=>simp[intOf];omega
  · obtain rfl:i=N:=by omega
    have hall:fs.take i=fs:=List.take_of_length_le (by have:=HNN.out;omega);rw[hall] at HF;clear hall hlt;go_wp2_with fail;go_ret;exact⟨_,_,_,vs,rfl,HF.out,HB.out⟩
theorem rows_of (a : Option Addr) (N cap : Nat) (fs : List SFact) (ea : Int → Addr) (w : World) (hE : EnvS ea w) (hN : N = fs.length) (hF : ReadFacts w (.slice a N cap) fs) (hok : ∀ f ∈ fs, fok f = true ∧ F64 f.ex) (hl : N ≤ 1000) :
    Calls Tryz.prog 30 #[.slice a N cap] w (fun e w'=>∃a2 c2,e=.returned (.tuple #[.slice a2 N c2,.nilIface])∧RowsIn w' a2 (fs.map bytesF)∧Below w.heap.size w w'):=by
 have hmf:∀(fn:Fn) (first cap:Array Value) (w:World),(Instr.makeFunc fn first cap).run Tryz.prog w=.ok (.func fn first cap) w:=fun _ _ _ _=>rfl
 have HBB:=qq (fun x (hx:x∈fs.map bytesF)=>show ∀c∈x,c<256 from by
   obtain⟨f,hf,rfl⟩:=List.mem_map.1 hx;exact bytesF_byte (hok f hf).1 (hok f hf).2)
 have hal:Below w.heap.size w (w.alloc (.cells #[.slice a N cap] 22)):=(Below.refl _ _).alloc (Nat.le_refl _) _;have HTR:=qq (try_gives_frows ⟨w.heap.size,0,none⟩ (fun v W'=>∃vs,BRows (w.heap.size+4) v (fs.map bytesF) vs W') (w.alloc (.cells #[.slice a N cap] 22))
   (fun W' hW' hz=>(rows1_of w.heap.size N a cap fs ea w W' hE (hal.trans (hW'.mono hal.size)) ((Blk.fresh w _ _ _ rfl).below hW') hN (rf_be (rf_be hF hal) hW') hok hl).mono fun e w' he=>by
     obtain⟨a,n,c,vs,h1,h2,h3⟩:=he;exact⟨a,n,c,h1,⟨vs,h2.mono (by simp at hz;omega)⟩,h3⟩)
   (fun v W1 W2 h hz hk=>by
     obtain⟨vs,h1⟩:=h;exact⟨vs,h1.heap (fun k hk1 _=>hk k (.inr (by simp;omega)))⟩))
 have HNN:=qq hN;clear hE hok hF hal hN;go_enter Tryz.func30,Tryz.ntmps30;go_wp2_with fail;refine HTR.out.mono ?_;rintro e w2 ⟨va,vn,vc,rfl,⟨vs,hbr⟩,hb2⟩;have HB2:=qq (below_then (show Below w.heap.size w _ from by go_grown) hb2);have HRD:=qq (hbr.read HBB.out);clear hb2 hbr;go_wp2_with fail
 refine bodyPost_ret (v:=.tuple #[.slice va vn vc,.nilIface]) (by simp[results,Tryz.results30,go_sem]) rfl ?_;obtain⟨a3,c3,h1,h2⟩:=HRD.out;injection h1 with e1 e2 e3
 subst e1 e2 e3;rw[List.length_map,←HNN.out];exact⟨va,vc,rfl,h2,HB2.out⟩
theorem partsF_append:∀(l m:List SPart) (i:Nat),partsF i (l ++m)=partsF i l ++partsF (i+l.length) m
 | [],m,i=>by simp[partsF]
 | p::t,m,i=>by
  show partF i p ++partsF (i+1) (t ++m)=(partF i p ++partsF (i+1) t) ++_
  rw[partsF_append t m (i+1),List.append_assoc];congr 3;simp;omega
theorem partF_len (i:Int) (p:SPart):(partF i p).length≤3:=by
 unfold partF;split<;>split<;>simp
theorem partsF_len:∀(l:List SPart) (i:Nat),(partsF i l).length≤3*l.length
 | [],i=>by simp[partsF]
 | p::t,i=>by
  have h1:=partsF_len t (i+1);have h2:=partF_len i p;show(partF i p ++partsF (i+1) t).length≤_
  rw[List.length_append,List.length_cons];omega
theorem partsF_take {l:List SPart} {k:Nat} {p:SPart} (h:l[k]? =some p):partsF 0 (l.take (k+1))=partsF 0 (l.take k) ++partF k p:=by
 obtain⟨hk,he⟩:=List.getElem?_eq_some_iff.1 h;rw[List.take_succ_eq_append_getElem hk,he,partsF_append,List.length_take,Nat.min_eq_left (Nat.le_of_lt hk),Nat.zero_add];show _ ++(partF k p ++ [])=_
 rw[List.append_nil]
theorem infoFactC:(Tryz.prog.info? 39).map (fun i=>(i.zero,i.size,i.bytes))=some (some (.agg #[.int .i64 0,.int .i64 0,.int .i64 0,.int .i64 0,.int .i64 0,.int .i64 0,.int .i64 0,.int .i64 0,.int .i64 0,.int .i64 0,.int .i64 0,.int .i64 0,.int .i64 0,.float .f64 0]),14,112):=by kernel_rfl
theorem factsL_snoc (fs:List SFact) (f:SFact):factsL (fs ++ [f])=factsL fs ++factL f:=by unfold factsL;rw[List.flatMap_append];simp
theorem partFacts_of (L:SLoc) (S:Sto) (w:World) (h:StoreAt L S w) (hG:StoGood S):Calls Tryz.prog 111 #[.pointer (some ⟨L.sb,0,none⟩)] w (fun e w'=>∃a c,e=.returned (.slice a (partsF 0 S.parts).length c)∧w'.ownsRow w.heap.size 39 14 (.slice a (partsF 0 S.parts).length c) (partsF 0 S.parts).length (factsL (partsF 0 S.parts))∧Below w.heap.size w w'):=by
 obtain⟨i0,ei,ez,es,eb⟩:=info_parts infoFactC;obtain⟨pa,pc,hpv,hpl,hpr⟩:=part_row h.parts;have h8:=hG.parts;obtain⟨n,hn⟩:∃n,n=S.parts.length:=⟨_,rfl⟩
 rw[←hn] at hpr h8;have c3:∀W,Below w.heap.size w W→W.cell? ⟨L.sb,3,none⟩=some (.slice pa n pc):=fun W hW=>by have:=(h.below hW).blk.cell 3;rw[hpv] at this;rw[hn];exact this
 have q3:=c3 w (Below.refl _ _);have hsb:=h.blk.lt;have HPR:=qq hpr;have HN:=qq hn;clear h hG hpr hpv hpl c3 hn;go_enter Tryz.func111,Tryz.ntmps111;go_wp2_with fail;go_loopw [3,11] (fun u cc wr=>∃k:Nat,k≤n∧cc=.int .i64 (k:Int)∧Hid (wr.ownsRow w.heap.size 39 14 u (partsF 0 (S.parts.take k)).length (factsL (partsF 0 (S.parts.take k))))∧Hid (Below w.heap.size w wr)) (fun _ cc _=>n - (intOf cc).toNat)
 case atStart=>exact⟨0,by omega,by first | rfl | go_num,qq (World.ownsRow_nil _ _ _ _),qq (Below.refl _ _)⟩
 case round=>
  obtain⟨k,hk,rfl,HO,HB⟩:=hrel;obtain⟨ua,uc,hu⟩:=row_slice HO.out;subst hu;have hk0:(0:Int)≤(k:Int):=by omega
  obtain⟨m,hm⟩:∃m,m=(partsF 0 (S.parts.take k)).length:=⟨_,rfl⟩
  have hm24:m≤24:=by have h1:=partsF_len (S.parts.take k) 0;rw[List.length_take] at h1;omega
  have HM:=qq hm;rw[←hm] at HO⊢;clear hm;have hwr:=HB.out.size;by_cases hlt:k<n
  · have hk1:(k:Int)<(n:Int):=by omega
    obtain⟨g,rfl,hg,_,hpt⟩:=HPR.out (by omega);obtain⟨p,hp⟩:∃p,S.parts[k]? =some p:=⟨_,List.getElem?_eq_getElem (by have:=HN.out;omega)⟩
    obtain⟨c0,c1,c2,c3,c4,c5,c6⟩:=(hpt k p hp).below HB.out hg;have hgw:g<wr.heap.size:=by omega
    have HTK:=qq (partsF_take hp);obtain⟨an,aq,rg,⟨sp,sd,ss,sh⟩⟩:=p;dsimp only at c0 c1 c2 c3 c4 c5 c6;have hb1:=(Below.refl wr.heap.size wr).alloc (Nat.le_refl _) (.cells #[an,aq,rg,sp,sd,ss,sh] 61);have KP:=qq (Blk.fresh wr #[an,aq,rg,sp,sd,ss,sh] 61 _ rfl)
    have HAT:Hid (∀(W:World) (v:Value) (l:List SFact) (N:Nat),W.ownsRow w.heap.size 39 14 v N (factsL (partsF 0 (S.parts.take k) ++l))→partsF 0 (S.parts.take (k+1))=partsF 0 (S.parts.take k) ++l→N=m+l.length→W.ownsRow w.heap.size 39 14 v (partsF 0 (S.parts.take (k+1))).length (factsL (partsF 0 (S.parts.take (k+1))))):=qq (fun W v l N h1 h2 h3=>by rw[h2,List.length_append,←HM.out,←h3];exact h1)
    clear hp hpt hlt;have HNE:Hid ((Value.slice ua m uc).ownBlock≠some wr.heap.size):=qq (fun e=>by have:=(HO.out.lt _ e).2;omega);have hal:=hb1.alloc (by simp) (.cells #[.int .i64 6,an,aq,.int .i64 0,.int .i64 0,.int .i64 ((k:Int)),sp,.int .i64 0,.int .i64 0,.int .i64 0,.int .i64 0,.int .i64 0,.int .i64 0,.float .f64 0] 39);have hrow:=row_be HO.out hal;have HBA:=qq (below_then HB.out hal)
    have HUB:=qq (fun j hj=>(HO.out.lt j hj));have KA:=qq (KP.out.alloc (.cells #[.int .i64 6,an,aq,.int .i64 0,.int .i64 0,.int .i64 ((k:Int)),sp,.int .i64 0,.int .i64 0,.int .i64 0,.int .i64 0,.int .i64 0,.int .i64 0,.float .f64 0] 39));have hnb:wr.heap.size≤wr.heap.size:=Nat.le_refl _;clear hal
    go_wp2_with (at_builtin;refine wpList_append_own_at _ rfl _ _ 22 rfl w.heap.size 39 i0 (.agg #[.int .i64 0,.int .i64 0,.int .i64 0,.int .i64 0,.int .i64 0,.int .i64 0,.int .i64 0,.int .i64 0,.int .i64 0,.int .i64 0,.int .i64 0,.int .i64 0,.int .i64 0,.float .f64 0]) 14 112 Tryz.underlying22 ei ez es eb rfl (by decide) _ _ _ rfl hrow ⟨wr.heap.size+1,0,none⟩ 1 1 (factL ⟨6,an,aq,0,0,(k:Int),sp,0,0,0,0,0,0,0⟩) (by rfl) rfl (lit_cells (Blk.fresh _ _ _ _ (by simp))) (factL_one ⟨6,an,aq,0,0,(k:Int),sp,0,0,0,0,0,0,0⟩) ?d3_1 ?d4_1 ?d5_1 ?_)
    case d3_1=>unfold maxLen;omega
    case d4_1=>omega
    case d5_1=>exact HBA.out.size
    intro v2 w7 hown hgrow _ hat;obtain⟨ua2,uc2,hu2⟩:=row_slice hown;subst hu2
    have HO2:Hid (w7.ownsRow w.heap.size 39 14 (.slice ua2 (m+1) uc2) (m+1) (factsL (partsF 0 (S.parts.take k) ++ [⟨6,an,aq,0,0,(k:Int),sp,0,0,0,0,0,0,0⟩]))):=qq (by rw[show partsF 0 (S.parts.take k) ++ [⟨6,an,aq,0,0,(k:Int),sp,0,0,0,0,0,0,0⟩]=(partsF 0 (S.parts.take k)) ++ [⟨6,an,aq,0,0,(k:Int),sp,0,0,0,0,0,0,0⟩] by simp,factsL_snoc];exact hown)
    have HB2:=qq (HBA.out.grown hgrow HBA.out.size (fun j hj=>(HUB.out j hj).1));have KP2:=qq (KA.out.same hgrow.size (hgrow.block _ KA.out.lt (fun e=>HNE.out e.symm)));have HNE2:Hid ((Value.slice ua2 (m+1) uc2).ownBlock≠some wr.heap.size):=qq (fun e=>by
      rcases hat with h1 | h1
      · rw[h1] at e;exact HNE.out e
      · rw[h1] at e;injection e with e;have h2:=KP.out.lt;(try simp at e h2);omega)
    clear hown hgrow hrow HUB HBA KA hat HNE;replace HO:=HO2;replace HB:=HB2;replace KP:=KP2;have HNE:=HNE2;clear HO2 HB2 KP2 HNE2;clear hb1;obtain⟨w6,hw6⟩:∃x,x=w7:=⟨_,rfl⟩
    subst hw6;obtain⟨lp,qp,fp⟩:=KP.out;clear fp lp;by_cases h7:rg= -1
    · have hr1:(rg != -1)=false:=by simpa using h7
      by_cases h8s:ss=1
      · have hs1:(ss !=1)=false:=by simpa using h8s
        go_wp2_with fail;go_roundw
        case rel=>exact⟨k+1,by omega,by go_num,qq (HAT.out _ _ [⟨6,an,aq,0,0,(k:Int),sp,0,0,0,0,0,0,0⟩] _ (by simpa using HO.out) (by rw[HTK.out];unfold partF;simp[h7,h8s]) rfl),HB⟩
        case measure=>simp[intOf];omega
      · have hs1:(ss !=1)=true:=by simpa using h8s
        clear qp;obtain⟨lp,qp,fp⟩:=KP.out;have hal:=(Below.refl w6.heap.size w6).alloc (Nat.le_refl _) (.cells #[.int .i64 8,.int .i64 0,.int .i64 0,.int .i64 0,.int .i64 0,.int .i64 ((k:Int)),.int .i64 0,.int .i64 0,.int .i64 0,.int .i64 0,ss,sh,.int .i64 0,.float .f64 0] 39);have hrow:=row_be HO.out hal;have HBA:=qq (below_then HB.out hal);have HUB:=qq (fun j hj=>(HO.out.lt j hj))
        have KA:=qq (KP.out.alloc (.cells #[.int .i64 8,.int .i64 0,.int .i64 0,.int .i64 0,.int .i64 0,.int .i64 ((k:Int)),.int .i64 0,.int .i64 0,.int .i64 0,.int .i64 0,ss,sh,.int .i64 0,.float .f64 0] 39));clear hal
        go_wp2_with (at_builtin;refine wpList_append_own_at _ rfl _ _ 22 rfl w.heap.size 39 i0 (.agg #[.int .i64 0,.int .i64 0,.int .i64 0,.int .i64 0,.int .i64 0,.int .i64 0,.int .i64 0,.int .i64 0,.int .i64 0,.int .i64 0,.int .i64 0,.int .i64 0,.int .i64 0,.float .f64 0]) 14 112 Tryz.underlying22 ei ez es eb rfl (by decide) _ _ _ rfl hrow ⟨w6.heap.size,0,none⟩ 1 1 (factL ⟨8,0,0,0,0,(k:Int),0,0,0,0,ss,sh,0,0⟩) (by rfl) rfl (lit_cells (Blk.fresh _ _ _ _ (by simp))) (factL_one ⟨8,0,0,0,0,(k:Int),0,0,0,0,ss,sh,0,0⟩) ?d3_2 ?d4_2 ?d5_2 ?_)
        case d3_2=>unfold maxLen;omega
        case d4_2=>omega
        case d5_2=>exact HBA.out.size
        intro v2 w7 hown hgrow _ hat;obtain⟨ua2,uc2,hu2⟩:=row_slice hown;subst hu2
        have HO2:Hid (w7.ownsRow w.heap.size 39 14 (.slice ua2 (m+1+1) uc2) (m+1+1) (factsL (partsF 0 (S.parts.take k) ++ [⟨6,an,aq,0,0,(k:Int),sp,0,0,0,0,0,0,0⟩,⟨8,0,0,0,0,(k:Int),0,0,0,0,ss,sh,0,0⟩]))):=qq (by rw[show partsF 0 (S.parts.take k) ++ [⟨6,an,aq,0,0,(k:Int),sp,0,0,0,0,0,0,0⟩,⟨8,0,0,0,0,(k:Int),0,0,0,0,ss,sh,0,0⟩]=(partsF 0 (S.parts.take k) ++ [⟨6,an,aq,0,0,(k:Int),sp,0,0,0,0,0,0,0⟩]) ++ [⟨8,0,0,0,0,(k:Int),0,0,0,0,ss,sh,0,0⟩] by simp,factsL_snoc];exact hown)
        have HB2:=qq (HBA.out.grown hgrow HBA.out.size (fun j hj=>(HUB.out j hj).1));have KP2:=qq (KA.out.same hgrow.size (hgrow.block _ KA.out.lt (fun e=>HNE.out e.symm)));have HNE2:Hid ((Value.slice ua2 (m+1+1) uc2).ownBlock≠some wr.heap.size):=qq (fun e=>by
          rcases hat with h1 | h1
          · rw[h1] at e;exact HNE.out e
          · rw[h1] at e;injection e with e;have h2:=KP.out.lt;(try simp at e h2);omega)
        clear hown hgrow hrow HUB HBA KA hat HNE;replace HO:=HO2;replace HB:=HB2;replace KP:=KP2;have HNE:=HNE2;clear HO2 HB2 KP2 HNE2;obtain⟨w6,hw6⟩:∃x,x=w7:=⟨_,rfl⟩
        subst hw6;obtain⟨lp,qp,fp⟩:=KP.out;clear fp lp;go_wp2_with fail;go_roundw
        case rel=>exact⟨k+1,by omega,by go_num,qq (HAT.out _ _ [⟨6,an,aq,0,0,(k:Int),sp,0,0,0,0,0,0,0⟩,⟨8,0,0,0,0,(k:Int),0,0,0,0,ss,sh,0,0⟩] _ (by simpa using HO.out) (by rw[HTK.out];unfold partF;simp[h7,h8s]) rfl),HB⟩
        case measure=>simp[intOf];omega
    · have hr1:(rg != -1)=true:=by simpa using h7
      have hal:=(Below.refl w6.heap.size w6).alloc (Nat.le_refl _) (.cells #[.int .i64 7,.int .i64 0,.int .i64 0,rg,.int .i64 0,.int .i64 ((k:Int)),.int .i64 0,.int .i64 0,.int .i64 0,.int .i64 0,.int .i64 0,.int .i64 0,.int .i64 0,.float .f64 0] 39);have hrow:=row_be HO.out hal;have HBA:=qq (below_then HB.out hal);have HUB:=qq (fun j hj=>(HO.out.lt j hj))
      have KA:=qq (KP.out.alloc (.cells #[.int .i64 7,.int .i64 0,.int .i64 0,rg,.int .i64 0,.int .i64 ((k:Int)),.int .i64 0,.int .i64 0,.int .i64 0,.int .i64 0,.int .i64 0,.int .i64 0,.int .i64 0,.float .f64 0] 39));clear hal
      go_wp2_with (at_builtin;refine wpList_append_own_at _ rfl _ _ 22 rfl w.heap.size 39 i0 (.agg #[.int .i64 0,.int .i64 0,.int .i64 0,.int .i64 0,.int .i64 0,.int .i64 0,.int .i64 0,.int .i64 0,.int .i64 0,.int .i64 0,.int .i64 0,.int .i64 0,.int .i64 0,.float .f64 0]) 14 112 Tryz.underlying22 ei ez es eb rfl (by decide) _ _ _ rfl hrow ⟨w6.heap.size,0,none⟩ 1 1 (factL ⟨7,0,0,rg,0,(k:Int),0,0,0,0,0,0,0,0⟩) (by rfl) rfl (lit_cells (Blk.fresh _ _ _ _ (by simp))) (factL_one ⟨7,0,0,rg,0,(k:Int),0,0,0,0,0,0,0,0⟩) ?d3_3 ?d4_3 ?d5_3 ?_)
      case d3_3=>unfold maxLen;omega
      case d4_3=>omega
      case d5_3=>exact HBA.out.size
      intro v2 w7 hown hgrow _ hat;obtain⟨ua2,uc2,hu2⟩:=row_slice hown;subst hu2
      have HO2:Hid (w7.ownsRow w.heap.size 39 14 (.slice ua2 (m+1+1) uc2) (m+1+1) (factsL (partsF 0 (S.parts.take k) ++ [⟨6,an,aq,0,0,(k:Int),sp,0,0,0,0,0,0,0⟩,⟨7,0,0,rg,0,(k:Int),0,0,0,0,0,0,0,0⟩]))):=qq (by rw[show partsF 0 (S.parts.take k) ++ [⟨6,an,aq,0,0,(k:Int),sp,0,0,0,0,0,0,0⟩,⟨7,0,0,rg,0,(k:Int),0,0,0,0,0,0,0,0⟩]=(partsF 0 (S.parts.take k) ++ [⟨6,an,aq,0,0,(k:Int),sp,0,0,0,0,0,0,0⟩]) ++ [⟨7,0,0,rg,0,(k:Int),0,0,0,0,0,0,0,0⟩] by simp,factsL_snoc];exact hown)
      have HB2:=qq (HBA.out.grown hgrow HBA.out.size (fun j hj=>(HUB.out j hj).1));have KP2:=qq (KA.out.same hgrow.size (hgrow.block _ KA.out.lt (fun e=>HNE.out e.symm)));have HNE2:Hid ((Value.slice ua2 (m+1+1) uc2).ownBlock≠some wr.heap.size):=qq (fun e=>by
        rcases hat with h1 | h1
        · rw[h1] at e;exact HNE.out e
        · rw[h1] at e;injection e with e;have h2:=KP.out.lt;(try simp at e h2);omega)
      clear hown hgrow hrow HUB HBA KA hat HNE;replace HO:=HO2;replace HB:=HB2;replace KP:=KP2;have HNE:=HNE2;clear HO2 HB2 KP2 HNE2;obtain⟨w6,hw6⟩:∃x,x=w7:=⟨_,rfl⟩
      subst hw6;obtain⟨lp,qp,fp⟩:=KP.out;clear fp lp;by_cases h8s:ss=1
      · have hs1:(ss !=1)=false:=by simpa using h8s
        go_wp2_with fail;go_roundw
        case rel=>exact⟨k+1,by omega,by go_num,qq (HAT.out _ _ [⟨6,an,aq,0,0,(k:Int),sp,0,0,0,0,0,0,0⟩,⟨7,0,0,rg,0,(k:Int),0,0,0,0,0,0,0,0⟩] _ (by simpa using HO.out) (by rw[HTK.out];unfold partF;simp[h7,h8s]) rfl),HB⟩
        case measure=>simp[intOf];omega
      · have hs1:(ss !=1)=true:=by simpa using h8s
        clear qp;obtain⟨lp,qp,fp⟩:=KP.out;have hal:=(Below.refl w6.heap.size w6).alloc (Nat.le_refl _) (.cells #[.int .i64 8,.int .i64 0,.int .i64 0,.int .i64 0,.int .i64 0,.int .i64 ((k:Int)),.int .i64 0,.int .i64 0,.int .i64 0,.int .i64 0,ss,sh,.int .i64 0,.float .f64 0] 39);have hrow:=row_be HO.out hal;have HBA:=qq (below_then HB.out hal);have HUB:=qq (fun j hj=>(HO.out.lt j hj))
        have KA:=qq (KP.out.alloc (.cells #[.int .i64 8,.int .i64 0,.int .i64 0,.int .i64 0,.int .i64 0,.int .i64 ((k:Int)),.int .i64 0,.int .i64 0,.int .i64 0,.int .i64 0,ss,sh,.int .i64 0,.float .f64 0] 39));clear hal
        go_wp2_with (at_builtin;refine wpList_append_own_at _ rfl _ _ 22 rfl w.heap.size 39 i0 (.agg #[.int .i64 0,.int .i64 0,.int .i64 0,.int .i64 0,.int .i64 0,.int .i64 0,.int .i64 0,.int .i64 0,.int .i64 0,.int .i64 0,.int .i64 0,.int .i64 0,.int .i64 0,.float .f64 0]) 14 112 Tryz.underlying22 ei ez es eb rfl (by decide) _ _ _ rfl hrow ⟨w6.heap.size,0,none⟩ 1 1 (factL ⟨8,0,0,0,0,(k:Int),0,0,0,0,ss,sh,0,0⟩) (by rfl) rfl (lit_cells (Blk.fresh _ _ _ _ (by simp))) (factL_one ⟨8,0,0,0,0,(k:Int),0,0,0,0,ss,sh,0,0⟩) ?d3_4 ?d4_4 ?d5_4 ?_)
        case d3_4=>unfold maxLen;omega
        case d4_4=>omega
        case d5_4=>exact HBA.out.size
        intro v2 w7 hown hgrow _ hat;obtain⟨ua2,uc2,hu2⟩:=row_slice hown;subst hu2
        have HO2:Hid (w7.ownsRow w.heap.size 39 14 (.slice ua2 (m+1+1+1) uc2) (m+1+1+1) (factsL (partsF 0 (S.parts.take k) ++ [⟨6,an,aq,0,0,(k:Int),sp,0,0,0,0,0,0,0⟩,⟨7,0,0,rg,0,(k:Int),0,0,0,0,0,0,0,0⟩,⟨8,0,0,0,0,(k:Int),0,0,0,0,ss,sh,0,0⟩]))):=qq (by rw[show partsF 0 (S.parts.take k) ++ [⟨6,an,aq,0,0,(k:Int),sp,0,0,0,0,0,0,0⟩,⟨7,0,0,rg,0,(k:Int),0,0,0,0,0,0,0,0⟩,⟨8,0,0,0,0,(k:Int),0,0,0,0,ss,sh,0,0⟩]=(partsF 0 (S.parts.take k) ++ [⟨6,an,aq,0,0,(k:Int),sp,0,0,0,0,0,0,0⟩,⟨7,0,0,rg,0,(k:Int),0,0,0,0,0,0,0,0⟩]) ++ [⟨8,0,0,0,0,(k:Int),0,0,0,0,ss,sh,0,0⟩] by simp,factsL_snoc];exact hown)
        have HB2:=qq (HBA.out.grown hgrow HBA.out.size (fun j hj=>(HUB.out j hj).1));have KP2:=qq (KA.out.same hgrow.size (hgrow.block _ KA.out.lt (fun e=>HNE.out e.symm)));have HNE2:Hid ((Value.slice ua2 (m+1+1+1) uc2).ownBlock≠some wr.heap.size):=qq (fun e=>by
          rcases hat with h1 | h1
          · rw[h1] at e;exact HNE.out e
          · rw[h1] at e;injection e with e;have h2:=KP.out.lt;(try simp at e h2);omega)
        clear hown hgrow hrow HUB HBA KA hat HNE;replace HO:=HO2;replace HB:=HB2;replace KP:=KP2;have HNE:=HNE2;clear HO2 HB2 KP2 HNE2;obtain⟨w6,hw6⟩:∃x,x=w7:=⟨_,rfl⟩
        subst hw6;obtain⟨lp,qp,fp⟩:=KP.out;clear fp lp;go_wp2_with fail;go_roundw
        case rel=>exact⟨k+1,by omega,by go_num,qq (HAT.out _ _ [⟨6,an,aq,0,0,(k:Int),sp,0,0,0,0,0,0,0⟩,⟨7,0,0,rg,0,(k:Int),0,0,0,0,0,0,0,0⟩,⟨8,0,0,0,0,(k:Int),0,0,0,0,ss,sh,0,0⟩] _ (by simpa using HO.out) (by rw[HTK.out];unfold partF;simp[h7,h8s]) rfl),HB⟩
        case measure=>simp[intOf];omega
  · obtain rfl:k=n:=by omega
    have hall:S.parts.take k=S.parts:=List.take_of_length_le (by have:=HN.out;omega);rw[hall] at HO HM;clear hall hlt;go_wp2_with fail;go_ret;exact⟨_,_,by rw[←HM.out];rfl,by rw[←HM.out];exact HO.out,HB.out⟩
section
variable {P:Program} {ops:Array Oper} {Q:Exit→Act→World→Prop} {md:Region.Mode} {S:World→Prop} {ex:Nat→Bool}
def wpAnyX (P:Program) (md:Region.Mode) (ops:Array Oper) (Q:Exit→Act→World→Prop) (ex:Nat→Bool) (S:World→Prop):Nat→Array Bool→Act→World→Prop
 | 0,listed,a,w=>Region.ready md ops listed=[]∧Q .normal a w
 | fuel+1,listed,a,w=>
  (Region.ready md ops listed=[]→Q .normal a w)∧
  ∀i∈Region.ready md ops listed,wpOp P ops Q i (fun a' w'=>(ex i=true∨S w')∧wpAnyX P md ops Q ex S fuel (listed.setIfInBounds i true) a' w') a w
theorem wpAny_of_X:∀(fuel:Nat) (listed:Array Bool) (a:Act) (w:World),wpAnyX P md ops Q ex S fuel listed a w→wpAny P md ops Q fuel listed a w
 | 0,_,_,_,h=>h
 | fuel+1,_,_,_,h=>⟨h.1,fun i hi=>wpOp_mono (fun a' w' h'=>wpAny_of_X fuel _ a' w' h'.2) (h.2 i hi)⟩
def waitsX (md:Region.Mode) (ops:Array Oper) (ex:Nat→Bool) (i:Nat):Bool:=(List.range ops.size).all fun j=> !ex j || match ops[j]? with
 | none=>true
 | some oj=>oj.after.any (fun e=>Region.binds md e && e.on==i)
theorem wpAnyX_first {i : Nat} {oi : Oper} {v : Value} (hi : ops[i]? = some oi) (hwx : waitsX md ops ex i = true) (hsel : ∀ (j : Nat) (o : Oper) cs b, ops[j]? = some o → o.op ≠ .select cs b)
    (hQ:∀c a w,Q (.panic c) (a.put oi.dst v) w→Q (.panic c) a w):
    ∀(fuel:Nat) (listed:Array Bool) (a:Act) (w:World),
     (∀j oj,ops[j]? =some oj→j≠i→listed.getD j true=false→(∀e∈oj.after,Region.binds md e=true→e.on≠i)→oi.apart ops oj=true)→
     i∈Region.ready md ops listed→YieldsIf P ops S oi v a→S w→
     wpAnyX P md ops Q ex S fuel (listed.setIfInBounds i true) (a.put oi.dst v) w→wpAnyX P md ops Q ex S (fuel+1) listed a w:=by
 intro fuel
 induction fuel with
 | zero=>
  intro listed a w _ hr hy hS H;refine⟨fun h=>(by rw[h] at hr;cases hr),fun j hj=> ?_⟩;by_cases hji:j=i
  · subst hji;exact hy.wpOp hi hS ⟨.inr hS,H⟩
  · have:=ready_mono hj hji;rw[H.1] at this
    cases this
 | succ fuel ih=>
  intro listed a w hfree hr hy hS H;refine⟨fun h=>(by rw[h] at hr;cases hr),fun j hj=> ?_⟩;by_cases hji:j=i
  · subst hji;exact hy.wpOp hi hS ⟨.inr hS,H⟩
  · obtain⟨hjun,oj,hoj,hall⟩:=mem_ready.1 hj;have hnot:∀e∈oj.after,Region.binds md e=true→e.on≠i:=fun e he hb heq=>by
     have h1:=hall e he hb;have h0:=(mem_ready.1 hr).1;rw[heq] at h1;rcases Nat.lt_or_ge i listed.size with h' | h'
     · simp[h'] at h0 h1;rw[h0] at h1;cases h1
     · simp[Array.getElem?_eq_none h'] at h1
    have hl:ex j=false:=by
     cases hx:ex j with
     | false=>rfl
     | true=>
      have h1:=List.all_eq_true.1 hwx j (List.mem_range.2 (Array.getElem?_eq_some_iff.1 hoj).1);rw[hx,hoj] at h1;simp only[Bool.not_true,Bool.false_or] at h1;obtain⟨e,he,hb⟩:=Array.any_eq_true'.1 h1;simp only[Bool.and_eq_true,beq_iff_eq] at hb;exact absurd hb.2 (hnot e he hb.1)
    have h1:=wpOp_mono (K':=fun a' w'=>S w'∧wpAnyX P md ops Q ex S fuel ((listed.setIfInBounds i true).setIfInBounds j true) a' w') (fun a' w' h'=>⟨h'.1.resolve_left (by rw[hl];simp),h'.2⟩) (H.2 j (ready_mono hj hji));have h2:=wpOp_putIf hoj (hfree j oj hoj hji hjun hnot) (fun cs b=>hsel i oi cs b hi) (fun cs b=>hsel j oj cs b hoj) hQ hy h1
    refine wpOp_mono (fun a' w' h3=>⟨.inr h3.2.1,ih (listed.setIfInBounds j true) a' w' (fun k ok hk hki hun hno=>hfree k ok hk hki ?_ hno) (ready_mono hr (Ne.symm hji)) h3.1 h3.2.1 ?_⟩) h2
    · by_cases hjk:j=k
      · subst hjk;exact hjun
      · rw[getD_set_ne true hjk] at hun;exact hun
    · rw[Array.setIfInBounds_comm _ _ hji];exact h3.2.2
theorem takeX {fuel : Nat} {listed : Array Bool} {a : Act} {w : World} {oi : Oper} {d : Option Tmp} {v : Value}
    (i:Nat) (hi:ops[i]? =some oi) (hd:oi.dst=d) (hS:S w) (hy:∀w,S w→(execOp a.eval oi).run P w=.ok (.value v) w) (h:wpAnyX P md ops Q ex S fuel (listed.setIfInBounds i true) (a.put d v) w)
    (hs:Region.noSelect ops=true:=by kernel_rfl) (hf:Region.free md ops listed i=true:=by kernel_rfl) (hr:(Region.ready md ops listed).contains i=true:=by kernel_rfl) (hwx:waitsX md ops ex i=true:=by kernel_rfl)
    (hQ:∀c a w,Q (.panic c) (a.put oi.dst v) w→Q (.panic c) a w:=by exact fun _ _ _ h=>h) (hw:Region.wanted oi (yielded ops a.tmps)=true:=by rfl):wpAnyX P md ops Q ex S (fuel+1) listed a w:=by
 subst hd;exact wpAnyX_first hi hwx (Region.noSelect_spec hs) hQ fuel listed a w (Region.free_spec hi hf) (by simpa using hr) (.inl ⟨hw,hy⟩) hS h
theorem doneX {listed:Array Bool} {a:Act} {w:World} (hr:Region.ready md ops listed=[]) (h:Q .normal a w):∀fuel,wpAnyX P md ops Q ex S fuel listed a w
 | 0=>⟨hr,h⟩
 | _+1=>⟨fun _=>h,by rw[hr];simp⟩
theorem one_X {fuel : Nat} {listed : Array Bool} {a : Act} {w : World} (i : Nat) (hr : Region.ready md ops listed = [i])
    (h:wpOp P ops Q i (fun a' w'=>(ex i=true∨S w')∧wpAnyX P md ops Q ex S fuel (listed.setIfInBounds i true) a' w') a w):wpAnyX P md ops Q ex S (fuel+1) listed a w:=
 ⟨fun h0=>absurd (hr▸h0) (by simp),fun k hk=>by
   rw[hr] at hk;obtain rfl:k=i:=by simpa using hk
   exact h⟩
theorem pure_X {fuel : Nat} {listed : Array Bool} {a : Act} {w : World} {oi : Oper} {d : Option Tmp} {v : Value} (i : Nat) (hi : ops[i]? = some oi) (hd : oi.dst = d) (hS : S w) (hrun : (execOp a.eval oi).run P w = .ok (.value v) w)
    (h:wpAnyX P md ops Q ex S fuel (listed.setIfInBounds i true) (a.put d v) w) (hr:Region.ready md ops listed=[i]:=by kernel_rfl) (hw:Region.wanted oi (yielded ops a.tmps)=true:=by rfl):wpAnyX P md ops Q ex S (fuel+1) listed a w:=
 one_X i hr (wpOp_alone i v _ hi hd hw hrun (show _ from⟨.inr hS,h⟩))
theorem new_X {fuel : Nat} {listed : Array Bool} {a : Act} {w : World} {oi : Oper} {d : Option Tmp} (i : Nat) (v : Value) (C : Array Value) (T : TypeId) (hi : ops[i]? = some oi) (hd : oi.dst = d) (hrun : (execOp a.eval oi).run P w = .ok (.value v) (w.alloc (.cells C T))) (hS : S (w.alloc (.cells C T)))
    (h:S (w.alloc (.cells C T))→Blk (w.alloc (.cells C T)) w.heap.size C→wpAnyX P md ops Q ex S fuel (listed.setIfInBounds i true) (a.put d v) (w.alloc (.cells C T))) (hr:Region.ready md ops listed=[i]:=by kernel_rfl)
    (hw:Region.wanted oi (yielded ops a.tmps)=true:=by rfl):wpAnyX P md ops Q ex S (fuel+1) listed a w:=
 one_X i hr (wpOp_alone i v _ hi hd hw hrun (show _ from⟨.inr hS,h hS (Blk.fresh _ _ _ _ rfl)⟩))
end
section
variable {P:Program} {ops:Array Oper} {Q:Exit→Act→World→Prop} {l n:Nat}
end
theorem app_X {Q : Exit → Act → World → Prop} {ops : Array Oper} {md : Region.Mode} {ex : Nat → Bool} {S : World → Prop} {fuel : Nat} {listed : Array Bool} {a : Act} {w : World} {oi : Oper} {d : Option Tmp} (i : Nat) (hi : ops[i]? = some oi) (hd : oi.dst = d) (hgd : oi.guard = none) (s x : Operand) (t : TypeId)
    (ho:oi.op=.call {callee:=.builtin .append,args:= #[s,x],argTypes:= #[t,t]})
    (base:Nat) (e:TypeId) (inf:TypeInfo) (z:Value) (size bytes:Nat) (ht:Tryz.prog.underlying t=some (.slice e)) (hinf:Tryz.prog.info? e=some inf) (hz:inf.zero=some z)
    (hsize:inf.size=size) (hby:inf.bytes=bytes) (hzs:z.cells.size=size) (hsz:0<size)
    (v:Value) (n:Nat) (xs:List Value) (hs:a.eval s=v) (hown:w.ownsRow base e size v n xs)
    (ad:Addr) (m c:Nat) (news:List Value) (hx:a.eval x=.slice (some ad) m c) (hl:news.length=m*size) (hnews:∀j u,news[j]? =some u→w.cell? (ad.add j)=some u) (h1:∀u∈news,u.oneCell'=true)
    (h63:n+m≤maxLen) (hbytes:(n+m)*bytes≤140737488355328) (hbase:base≤w.heap.size)
    (h:∀v' w',w'.ownsRow base e size v' (n+m) (xs ++news)→w.grownBy w' v.ownBlock→(v'.ownBlock=v.ownBlock∨v'.ownBlock=some w.heap.size)→(ex i=true∨S w')∧wpAnyX Tryz.prog md ops Q ex S fuel (listed.setIfInBounds i true) (a.put d v') w')
    (hr:Region.ready md ops listed=[i]:=by kernel_rfl):wpAnyX Tryz.prog md ops Q ex S (fuel+1) listed a w:=by
 subst hd;refine one_X i hr (wpOp_step hi (fun K' hK=> ?_));refine step_app hgd s x t ho base e inf z size bytes ht hinf hz hsize hby hzs hsz v n xs hs hown ad m c news hx hl hnews h1 h63 hbytes hbase ?_;intro v' w' h2 h3 h4;exact hK _ _ (h v' w' h2 h3 h4)
end Go.Proofs.YtlkajejbfojkeaaGreatDoor
