/- PolA, PolO0, Is, Num, Told, ToldB, PolB -/
import Derived.Test.YtbepkpjcjpmpmaaGreatDoorAQq
import Derived.Test.YtbepkpjcjpmpmaaGreatDoorAGen
import Derived.Sort.EncStr
import Derived.LaidEql
import Derived.Stop.Asserts
import Derived.RowKitTokens
set_option linter.unusedSimpArgs false
set_option linter.unusedVariables false
set_option maxRecDepth 100000
set_option maxHeartbeats 16000000
namespace Go.Proofs.YtbepkpjcjpmpmaaGreatDoor
open Go.RowKit
def KT (B E:Nat) (w:World):PF→Nat→Nat→Prop
 | .nil,_,_=>True
 | .cons op nm opt kids rest, b, o => (w.cell? ⟨b, o, none⟩ = some (.int .i64 op) ∧ w.cell? ⟨b, o + 1, none⟩ = some (encStr nm) ∧ w.cell? ⟨b, o + 2, none⟩ = some (.bool opt) ∧ ∃ a c, w.cell? ⟨b, o + 3, none⟩ = some (.slice a kids.len c) ∧
     (kids≠.nil→∃b2 o2,a=some ⟨b2,o2,none⟩∧B≤b2∧b2<E∧KT B E w kids b2 o2))∧KT B E w rest b (o+4)
def KC (B E:Nat) (w:World) (kids:PF) (a:Option Addr):Prop:=kids≠.nil→∃b o,a=some ⟨b,o,none⟩∧B≤b∧b<E∧KT B E w kids b o
theorem KT.keep {B E B' E':Nat} {w w':World} (hB:B'≤B) (hE:E≤E') (he:∀k,B≤k→k<E→w'.heap[k]? =w.heap[k]?):∀(l:PF) (b o:Nat),(l≠.nil→B≤b∧b<E)→KT B E w l b o→KT B' E' w' l b o
 | .nil,_,_,_,_=>True.intro
 | .cons op nm opt kids rest,b,o,hb,h=>by
  obtain⟨⟨h1,h2,h3,a,c,h4,h5⟩,h6⟩:=h;have hbb:=hb (by simp);have hh:=he b hbb.1 hbb.2;refine⟨⟨(World.cell?_of_block (w:=w) (a:=⟨b,o,none⟩) hh).trans h1,(World.cell?_of_block (w:=w) (a:=⟨b,o+1,none⟩) hh).trans h2,(World.cell?_of_block (w:=w) (a:=⟨b,o+2,none⟩) hh).trans h3,a,c,(World.cell?_of_block (w:=w) (a:=⟨b,o+3,none⟩) hh).trans h4,fun hn=> ?_⟩,KT.keep hB hE he rest b (o+4) (fun _=>hbb) h6⟩
  obtain⟨b2,o2,e1,e2,e3,e4⟩:=h5 hn;exact⟨b2,o2,e1,Nat.le_trans hB e2,Nat.lt_of_lt_of_le e3 hE,KT.keep hB hE he kids b2 o2 (fun _=>⟨e2,e3⟩) e4⟩
theorem KC.keep {B E B' E':Nat} {w w':World} {l:PF} {a:Option Addr} (h:KC B E w l a) (hB:B'≤B) (hE:E≤E') (he:∀k,B≤k→k<E→w'.heap[k]? =w.heap[k]?):KC B' E' w' l a:=fun hn=>by
 obtain⟨b,o,e1,e2,e3,e4⟩:=h hn;exact⟨b,o,e1,Nat.le_trans hB e2,Nat.lt_of_lt_of_le e3 hE,e4.keep hB hE he l b o (fun _=>⟨e2,e3⟩)⟩
theorem KC.below {B E:Nat} {w w':World} {l:PF} {a:Option Addr} (h:KC B E w l a) (hE:E≤w.heap.size) (hb:Below w.heap.size w w'):KC B E w' l a:=h.keep (Nat.le_refl _) (Nat.le_refl _) (fun k _ hk=>hb.block k (by omega))
theorem KC.nil {B E:Nat} {w:World} {a:Option Addr}:KC B E w .nil a:=fun h=>absurd rfl h
theorem KT.at {B E : Nat} {w : World} : ∀ (l : PF) (i : Nat) (e : PE) (b o : Nat), l.at i = some e → KT B E w l b o →
    w.cell? ⟨b,o+i*4,none⟩=some (.int .i64 e.op)∧w.cell? ⟨b,o+i*4+1,none⟩=some (encStr e.nm)∧w.cell? ⟨b,o+i*4+2,none⟩=some (.bool e.opt)∧∃a c,w.cell? ⟨b,o+i*4+3,none⟩=some (.slice a e.kids.len c)∧KC B E w e.kids a
 | .nil,i,e,b,o,h,_=>by cases h
 | .cons op nm opt kids rest,0,e,b,o,h,hk=>by
  injection h with h
  subst h;obtain⟨⟨h1,h2,h3,a,c,h4,h5⟩,_⟩:=hk;exact⟨h1,h2,h3,a,c,h4,h5⟩
 | .cons op nm opt kids rest,i+1,e,b,o,h,hk=>by
  have:=KT.at rest i e b (o+4) h hk.2;rwa[show o+4+i*4=o+(i+1)*4 by omega] at this
open Go.RowKit Go.Shelf
theorem gr_refl (w:World) (o:Option Nat):w.grownBy w o:=⟨rfl,rfl,rfl,Nat.le_refl _,fun _ _ _=>rfl⟩
theorem gr_drew {w w':World} {o:Option Nat} (h:w.grownBy w' o):w.grownBy w'.drew o:=⟨h.os,h.tape,h.output,h.size,h.block⟩
theorem gr_of_below {w w':World} (o:Option Nat) (h:Below w.heap.size w w'):w.grownBy w' o:=⟨h.os,h.tape,h.output,h.size,fun k hk _=>h.block k hk⟩
theorem gr_setb {w w':World} {rb:Nat} (h:w.grownBy w' (some rb)) (i:Nat) (v:Value):w.grownBy (w'.setCell ⟨rb,i,none⟩ v) (some rb):=by
 refine⟨h.os,h.tape,h.output,by simpa using h.size,fun k hk hne=> ?_⟩;rw[Below.heap_setCell _ _ _ _ (by rintro rfl;exact hne rfl)];exact h.block k hk hne
theorem gr_below {w0 w w':World} {rb:Nat} (hb:Below w0.heap.size w0 w) (h:w.grownBy w' (some rb)) (hr:w0.heap.size≤rb):Below w0.heap.size w0 w':=hb.grown h hb.size (fun j hj=>by injection hj with hj;omega)
theorem gr_tr {w w1 w2:World} {o:Option Nat} (hg:w.grownBy w1 o) (h4:w1.grownBy w2 o):w.grownBy w2 o:=⟨h4.os.trans hg.os,h4.tape.trans hg.tape,h4.output.trans hg.output,Nat.le_trans hg.size h4.size,fun k hk hne=>(h4.block k (Nat.lt_of_lt_of_le hk hg.size) hne).trans (hg.block k hk hne)⟩
theorem lit_row4 (w:World) (a b c d:Value) (T:TypeId):(w.alloc (.cells #[a,b,c,d] T)).ownsRow w.heap.size T 4 (.slice (some ⟨w.heap.size,0,none⟩) 1 1) 1 [a,b,c,d]:=
 ⟨rfl,.inr ⟨w.heap.size,1,#[a,b,c,d],rfl,Nat.le_refl _,hp_new _ rfl,Nat.le_refl _,by unfold maxLen;omega,rfl,rfl⟩⟩
theorem lit_row (w:World) (x:Value) (T:TypeId):(w.alloc (.cells #[x] T)).ownsRow w.heap.size T 1 (.slice (some ⟨w.heap.size,0,none⟩) 1 1) 1 [x]:=
 ⟨rfl,.inr ⟨w.heap.size,1,#[x],rfl,Nat.le_refl _,hp_new _ rfl,Nat.le_refl _,by unfold maxLen;omega,rfl,rfl⟩⟩
open Go.RowKit Go.Extern.Stop Go.Stop Go.Extern
theorem isTypeOf (v:Value) (w:World):(Extern.ReflectliteType.typeOf #[.iface 176 v]).run Tryz.prog w=.ok (.iface 122 (.agg #[.pointer (some ⟨15,176,none⟩)])) w:=by kernel_rfl
def cmpExt : Array Value → Sem Value := Extern.ReflectliteType.method fun t => do Extern.Rtype.noPackHeld "Comparable" t; pure (.bool (← typeInfo t).comparable)
theorem isComparable (w:World):(cmpExt #[.agg #[.pointer (some ⟨15,176,none⟩)]]).run Tryz.prog w=.ok (.bool true) w:=by kernel_rfl
theorem isMethodComparable (v : Value) (w : World) : (Go.method 309 122 v "Comparable").run Tryz.prog w = .ok (146, v) w := by kernel_rfl
theorem isComp:(Tryz.prog.info? 176).map (·.comparable)=some true:=by kernel_rfl
theorem isSize:(Tryz.prog.info? 198).map (·.size)=some 1:=by kernel_rfl
theorem noIsE (v:Value) (xT:TypeId) (w:World):(Instr.typeAssert (.iface 176 v) xT 124 true).run Tryz.prog w=.ok (.tuple #[.nilIface,.bool false]) w:=run_typeAssert_lacksB Tryz.underlying124 (by kernel_rfl) (by kernel_rfl) v xT w
theorem noUnwrapE (v:Value) (xT:TypeId) (w:World):(Instr.typeAssert (.iface 176 v) xT 126 true).run Tryz.prog w=.ok (.tuple #[.nilIface,.bool false]) w:=run_typeAssert_lacksB Tryz.underlying126 (by kernel_rfl) (by kernel_rfl) v xT w
theorem noUnwrapsE (v:Value) (xT:TypeId) (w:World):(Instr.typeAssert (.iface 176 v) xT 128 true).run Tryz.prog w=.ok (.tuple #[.nilIface,.bool false]) w:=run_typeAssert_lacksB Tryz.underlying128 (by kernel_rfl) (by kernel_rfl) v xT w
theorem is_same (a:Addr) (w:World):Calls Tryz.prog 34 #[errV a,errV a] w (Gives (.bool true) w):=by
 obtain⟨i,hi,hcmp⟩:=Option.map_eq_some_iff.1 isComp;obtain⟨j,hj,hjs⟩:=Option.map_eq_some_iff.1 isSize;have h8:=@run_callFunc_extern Tryz.prog 56 _ Extern.ReflectliteType.typeOf Tryz.func56 (by kernel_rfl) (by kernel_rfl) (by kernel_rfl) (by kernel_rfl);have h32:=@run_callFunc_extern Tryz.prog 146 _ cmpExt Tryz.func146 (by kernel_rfl) (by kernel_rfl) (by kernel_rfl) (by kernel_rfl)
 have tT:=isTypeOf;have cT:=isComparable;have mR:=isMethodComparable;have heq:=run_eql_iface_ptr_same (P:=Tryz.prog) w a Tryz.underlying31 Tryz.underlying176 hi hcmp hj;go_enter Tryz.func34,Tryz.ntmps34;go_wp2;refine wp_loop_rounds 1 ?_;rw[rounds_succ];go_wp2;go_ret;exact⟨rfl,rfl⟩
theorem is_other (a b : Addr) (ca cb : Array Value) (ta tb : TypeId) (w : World) (hne : a ≠ b) (ha : w.heap[a.block]? = some (.cells ca ta (0, 0))) (hb : w.heap[b.block]? = some (.cells cb tb (0, 0))) :
    Calls Tryz.prog 34 #[errV a,errV b] w (Gives (.bool false) w):=by
 obtain⟨i,hi,hcmp⟩:=Option.map_eq_some_iff.1 isComp;obtain⟨j,hj,hjs⟩:=Option.map_eq_some_iff.1 isSize;have h8:=@run_callFunc_extern Tryz.prog 56 _ Extern.ReflectliteType.typeOf Tryz.func56 (by kernel_rfl) (by kernel_rfl) (by kernel_rfl) (by kernel_rfl);have h32:=@run_callFunc_extern Tryz.prog 146 _ cmpExt Tryz.func146 (by kernel_rfl) (by kernel_rfl) (by kernel_rfl) (by kernel_rfl)
 have tT:=isTypeOf;have cT:=isComparable;have mR:=isMethodComparable;have nE:=noIsE;have uE:=noUnwrapE;have vE:=noUnwrapsE;have heq:=run_eql_iface_ptr_other (P:=Tryz.prog) w Tryz.underlying31 Tryz.underlying176 hi hcmp hj (by rw[hjs];decide) hne ha hb;go_enter Tryz.func34,Tryz.ntmps34;go_wp2;refine wp_loop_rounds 1 ?_;rw[rounds_succ];go_wp2;go_ret;exact⟨rfl,rfl⟩
structure Errs (ea:Int→Addr) (w:World):Prop where
 e1:ErrIs w 1 (ea 1)
 e2:ErrIs w 2 (ea 2)
 e3:ErrIs w 3 (ea 3)
 e4:ErrIs w 0 (ea 4)
 e5:ErrIs w 4 (ea 5)
 e6:ErrIs w 5 (ea 6)
 e7:ErrIs w 6 (ea 7)
 e8:ErrIs w 7 (ea 8)
 e9:ErrIs w 8 (ea 9)
 e10:ErrIs w 9 (ea 10)
 e11:ErrIs w 10 (ea 11)
 e12:ErrIs w 11 (ea 12)
 e13:ErrIs w 12 (ea 13)
 e14:ErrIs w 13 (ea 14)
 ne:∀i j:Int,1≤i→i≤14→1≤j→j≤14→ea i=ea j→i=j
 row:∀i:Int,1≤i→i≤14→∃c t,w.heap[(ea i).block]? =some (.cells c t (0,0))
theorem lt_of_row {w:World} {b:Nat} {o:Obj} (h:w.heap[b]? =some o):b<w.heap.size:=by
 rcases Nat.lt_or_ge b w.heap.size with h' | h'
 · exact h'
 · simp[Array.getElem?_eq_none h'] at h
theorem Errs.below {ea:Int→Addr} {w w':World} (h:Errs ea w) (hb:Below w.heap.size w w'):Errs ea w':=
 ⟨h.e1.below hb,h.e2.below hb,h.e3.below hb,h.e4.below hb,h.e5.below hb,h.e6.below hb,h.e7.below hb,h.e8.below hb,h.e9.below hb,h.e10.below hb,h.e11.below hb,h.e12.below hb,h.e13.below hb,h.e14.below hb,h.ne,
  fun i h1 h2=>by obtain⟨c,t,hr⟩:=h.row i h1 h2;exact⟨c,t,by rw[hb.block _ (lt_of_row hr)];exact hr⟩⟩
theorem num_nil (w:World):Calls Tryz.prog 15 #[.nilIface] w (Makes (.int .i64 0) w):=by
 go_enter Tryz.func15,Tryz.ntmps15;go_wp2_with fail;go_ret;exact⟨rfl,by go_grown⟩
theorem num_some (n:Int) (hn:1≤n∧n≤14) (ea:Int→Addr) (w:World) (h:Errs ea w):Calls Tryz.prog 15 #[errV (ea n)] w (Makes (.int .i64 n) w):=by
 have h1:w.cell? ⟨1,0,none⟩=some (errV (ea 1)):=h.e1;have h2:w.cell? ⟨2,0,none⟩=some (errV (ea 2)):=h.e2;have h3:w.cell? ⟨3,0,none⟩=some (errV (ea 3)):=h.e3;have h4:w.cell? ⟨0,0,none⟩=some (errV (ea 4)):=h.e4;have h5:w.cell? ⟨4,0,none⟩=some (errV (ea 5)):=h.e5;have h6:w.cell? ⟨5,0,none⟩=some (errV (ea 6)):=h.e6;have h7:w.cell? ⟨6,0,none⟩=some (errV (ea 7)):=h.e7
 have h8:w.cell? ⟨7,0,none⟩=some (errV (ea 8)):=h.e8;have h9:w.cell? ⟨8,0,none⟩=some (errV (ea 9)):=h.e9;have h10:w.cell? ⟨9,0,none⟩=some (errV (ea 10)):=h.e10;have h11:w.cell? ⟨10,0,none⟩=some (errV (ea 11)):=h.e11;have h12:w.cell? ⟨11,0,none⟩=some (errV (ea 12)):=h.e12;have h13:w.cell? ⟨12,0,none⟩=some (errV (ea 13)):=h.e13;have h14:w.cell? ⟨13,0,none⟩=some (errV (ea 14)):=h.e14
 have hB:Below w.heap.size w (w.alloc (.cells #[errV (ea 1),errV (ea 2),errV (ea 3),errV (ea 4),errV (ea 5),errV (ea 6),errV (ea 7),errV (ea 8),errV (ea 9),errV (ea 10),errV (ea 11),errV (ea 12),errV (ea 13),errV (ea 14)] 31)):=(Below.refl _ _).alloc (Nat.le_refl _) _;have HE:=qq (h.below hB);clear h
 have HC:Hid (∀j:Nat,j<14→(w.alloc (.cells #[errV (ea 1),errV (ea 2),errV (ea 3),errV (ea 4),errV (ea 5),errV (ea 6),errV (ea 7),errV (ea 8),errV (ea 9),errV (ea 10),errV (ea 11),errV (ea 12),errV (ea 13),errV (ea 14)] 31)).cell? ⟨w.heap.size,j,none⟩=some (errV (ea ((j:Int)+1)))):=qq (fun j hj=>by
   rw[World.cell?_alloc_new]
   match j,hj with
   | 0,_ | 1,_ | 2,_ | 3,_ | 4,_ | 5,_ | 6,_ | 7,_ | 8,_ | 9,_ | 10,_ | 11,_ | 12,_ | 13,_=>rfl)
 go_enter Tryz.func15,Tryz.ntmps15;go_wp2_with fail;clear h1 h2 h3 h4 h5 h6 h7 h8 h9 h10 h11 h12 h13 h14;go_loop [25] (fun i=>∃j:Nat,(j:Int)+1≤n∧i=.int .i64 j) (fun i=>14 - (intOf i).toNat)
 case atStart=>exact⟨0,by omega,rfl⟩
 case round=>
  obtain⟨j,hj,rfl⟩:=hrel;have hcj:=HC.out j (by omega);by_cases hjn:(j:Int)+1=n
  · rw[hjn] at hcj;have HJ:=qq hjn;clear hjn;go_wp2_with (go_at_call 34;refine(is_same _ _).mono ?_;rintro e w' ⟨rfl,rfl⟩);go_ret;exact⟨ret_int HJ.out,hB⟩
  · have hne:ea n≠ea ((j:Int)+1):=fun he=>hjn (HE.out.ne _ _ (by omega) (by omega) (by omega) (by omega) he).symm
    obtain⟨c1,t1,r1⟩:=HE.out.row n (by omega) (by omega);obtain⟨c2,t2,r2⟩:=HE.out.row ((j:Int)+1) (by omega) (by omega);have HN:=qq hne;clear hne;have R1:=qq r1;clear r1;have R2:=qq r2;clear r2;go_wp2_with (go_at_call 34;refine(is_other _ _ _ _ _ _ _ HN.out R1.out R2.out).mono ?_;rintro e w' ⟨rfl,rfl⟩);go_round
    case rel=>exact⟨j+1,by omega,by go_num⟩
    case measure=>simp[intOf];omega
def Fails (v:Value) (w:World) (e:Ending) (w':World):Prop:=e=.panicked [{v:=v,recovered:=false}]∧Below w.heap.size w w'
def Tries (ea:Int→Addr) (n:Int) (v:Value) (w:World) (e:Ending) (w':World):Prop:=if n=0 then Makes v w e w' else Fails (errV (ea n)) w e w'
theorem tries_makes {ea:Int→Addr} {n:Int} {v:Value} {f:Nat} {args:Array Value} {w:World} (hn:n=0) (h:Calls Tryz.prog f args w (Makes v w)):Calls Tryz.prog f args w (Tries ea n v w):=h.mono fun e w' h'=>by rw[Tries,if_pos hn];exact h'
theorem tries_fails {ea:Int→Addr} {n:Int} {v:Value} {f:Nat} {args:Array Value} {w:World} (hn:n≠0) (h:Calls Tryz.prog f args w (Fails (errV (ea n)) w)):Calls Tryz.prog f args w (Tries ea n v w):=h.mono fun e w' h'=>by rw[Tries,if_neg hn];exact h'
theorem tries_makes' {ea:Int→Addr} {n:Int} {v:Value} {f:Nat} {args:Array Value} {w:World} (hn:n=0) (h:Calls Tryz.prog f args w (Tries ea n v w)):Calls Tryz.prog f args w (Makes v w):=h.mono fun e w' h'=>by rw[Tries,if_pos hn] at h';exact h'
theorem tries_fails' {ea:Int→Addr} {n:Int} {v:Value} {f:Nat} {args:Array Value} {w:World} (hn:n≠0) (h:Calls Tryz.prog f args w (Tries ea n v w)):Calls Tryz.prog f args w (Fails (errV (ea n)) w):=h.mono fun e w' h'=>by rw[Tries,if_neg hn] at h';exact h'
theorem told1_of (n m : Int) (hn : 1 ≤ n ∧ n ≤ 14) (hm : 1 ≤ m ∧ m ≤ 14) (ea : Int → Addr) (ka : Addr) (w : World) (h : Errs ea w) (hk : w.cell? ka = some (errV (ea n))) :
    Calls Tryz.prog 77 #[errV (ea m),.pointer (some ka)] w (Makes (.bool (n==m)) w):=by
 have hlt:=lt_of_cell hk;by_cases hnm:n=m
 · subst hnm;rw[show(n==n)=true by simp];clear h;go_enter Tryz.func77,Tryz.ntmps77;go_wp2_with fail;refine(is_same _ _).mono ?_;rintro e w' ⟨rfl,rfl⟩;go_wp2_with fail;go_ret;exact⟨rfl,by go_grown⟩
 · rw[show(n==m)=false by simpa using hnm];have hne:ea n≠ea m:=fun he=>hnm (h.ne _ _ hn.1 hn.2 hm.1 hm.2 he)
   have HE:=qq h;have HN:=qq hne;clear h hne hnm;go_enter Tryz.func77,Tryz.ntmps77;go_wp2_with fail;obtain⟨c1,t1,r1⟩:=HE.out.row n hn.1 hn.2;obtain⟨c2,t2,r2⟩:=HE.out.row m hm.1 hm.2;refine(is_other _ _ _ _ _ _ _ HN.out r1 r2).mono ?_;rintro e w' ⟨rfl,rfl⟩;go_wp2_with fail;go_ret;exact⟨rfl,by go_grown⟩
def Own14 (ea:Int→Addr) (w:World) (b:Nat):Prop:=b<w.heap.size∧∀j:Nat,j<14→w.cell? ⟨b,j,none⟩=some (errV (ea ((j:Int)+1)))
theorem Own14.below {ea:Int→Addr} {w w':World} {b:Nat} (h:Own14 ea w b) (hb:Below w.heap.size w w'):Own14 ea w' b:=
 ⟨Nat.lt_of_lt_of_le h.1 hb.size,fun j hj=>(hb.cell (p:=⟨b,j,none⟩) h.1).trans (h.2 j hj)⟩
theorem indexe_of (n : Int) (hn : 1 ≤ n ∧ n ≤ 14) (ea : Int → Addr) (ka : Addr) (b : Nat) (w : World) (h : Errs ea w) (hk : w.cell? ka = some (errV (ea n))) (ho : Own14 ea w b) :
    Calls Tryz.prog 75 #[.slice (some ⟨b,0,none⟩) 14 14,.func (.func 77) #[] #[.pointer (some ka)]] w (Makes (.int .i64 (n - 1)) w):=by
 have hlt:=lt_of_cell hk;have HR:=qq ho;clear ho;have HE:=qq h;clear h;go_enter Tryz.func75,Tryz.ntmps75;go_wp2;go_loopw [8] (fun i wr=>∃j:Nat,(j:Int)+1≤n∧i=.int .i64 j∧Below w.heap.size w wr) (fun i _=>14 - (intOf i).toNat)
 case atStart=>exact⟨0,by omega,rfl,Below.refl _ _⟩
 case round=>
  obtain⟨j,hj,rfl,hb⟩:=hrel;have hkr:wr.cell? ka=some (errV (ea n)):=(hb.cell (p:=ka) hlt).trans hk;have h1:=(HR.out.below hb).2 j (by omega);have hj14:j<14:=by omega
  go_wp2_with (go_at_call 77;refine(told1_of n _ hn ⟨by omega,by omega⟩ ea _ _ (HE.out.below hb) hkr).mono ?_;rintro e w' ⟨rfl,hb'⟩)
  · have he:(n==(j:Int)+1)=true:=by assumption
    go_ret;exact⟨ret_int (by simp at he;omega),hb.trans (hb'.mono hb.size)⟩
  · have he:(n==(j:Int)+1)=false:=by assumption
    go_roundw
    case rel=>exact⟨j+1,by simp at he;omega,by go_num,hb.trans (hb'.mono hb.size)⟩
    case measure=>simp[intOf];omega
open Go.RowKit Go.Stop Go.Extern.Stop
def own14 (ea:Int→Addr):Array Value:= #[errV (ea 1),errV (ea 2),errV (ea 3),errV (ea 4),errV (ea 5),errV (ea 6),errV (ea 7),errV (ea 8),errV (ea 9),errV (ea 10),errV (ea 11),errV (ea 12),errV (ea 13),errV (ea 14)]
theorem own14_of {ea:Int→Addr} (w:World):Own14 ea (w.alloc (.cells (own14 ea) 31)) w.heap.size:=by
 refine⟨by simp,fun j hj=> ?_⟩;rw[World.cell?_alloc_new]
 match j,hj with
 | 0,_ | 1,_ | 2,_ | 3,_ | 4,_ | 5,_ | 6,_ | 7,_ | 8,_ | 9,_ | 10,_ | 11,_ | 12,_ | 13,_=>rfl
theorem own_of (ea:Int→Addr) (w:World) (h:Errs ea w):Calls Tryz.prog 76 #[] w (fun e w'=>e=.returned (.slice (some ⟨w.heap.size,0,none⟩) 14 14)∧w'=w.alloc (.cells (own14 ea) 31)):=by
 have h1:w.cell? ⟨1,0,none⟩=some (errV (ea 1)):=h.e1;have h2:w.cell? ⟨2,0,none⟩=some (errV (ea 2)):=h.e2;have h3:w.cell? ⟨3,0,none⟩=some (errV (ea 3)):=h.e3;have h4:w.cell? ⟨0,0,none⟩=some (errV (ea 4)):=h.e4;have h5:w.cell? ⟨4,0,none⟩=some (errV (ea 5)):=h.e5;have h6:w.cell? ⟨5,0,none⟩=some (errV (ea 6)):=h.e6;have h7:w.cell? ⟨6,0,none⟩=some (errV (ea 7)):=h.e7
 have h8:w.cell? ⟨7,0,none⟩=some (errV (ea 8)):=h.e8;have h9:w.cell? ⟨8,0,none⟩=some (errV (ea 9)):=h.e9;have h10:w.cell? ⟨9,0,none⟩=some (errV (ea 10)):=h.e10;have h11:w.cell? ⟨10,0,none⟩=some (errV (ea 11)):=h.e11;have h12:w.cell? ⟨11,0,none⟩=some (errV (ea 12)):=h.e12;have h13:w.cell? ⟨12,0,none⟩=some (errV (ea 13)):=h.e13;have h14:w.cell? ⟨13,0,none⟩=some (errV (ea 14)):=h.e14;clear h
 go_enter Tryz.func76,Tryz.ntmps76;go_wp2_with fail;go_ret;exact⟨rfl,rfl⟩
theorem isErr (v:Value) (xT:TypeId) (w:World):(Instr.typeAssert (.iface 176 v) xT 31 true).run Tryz.prog w=.ok (.tuple #[.iface 176 v,.bool true]) w:=run_typeAssert_hasB Tryz.underlying31 (by kernel_rfl) v xT w
theorem told_of (n:Int) (hn:1≤n∧n≤14) (ea:Int→Addr) (w:World) (h:Errs ea w):Calls Tryz.prog 52 #[errV (ea n)] w (Makes (errV (ea n)) w):=by
 have hta:=isErr (.pointer (some (ea n))) 20;have hmf:∀(fn:Fn) (first cap:Array Value) (w:World),(Instr.makeFunc fn first cap).run Tryz.prog w=.ok (.func fn first cap) w:=fun _ _ _ _=>rfl
 have HE:=qq h;obtain⟨j,hj⟩:∃j:Nat,n=(j:Int)+1:=⟨(n - 1).toNat,by omega⟩
 have hs:n - 1=(j:Int):=by omega
 have hj14:j<14:=by omega
 have HI:Hid (∀(ka:Addr) (b:Nat) (W:World),Errs ea W→W.cell? ka=some (errV (ea n))→Own14 ea W b→Calls Tryz.prog 75 #[.slice (some ⟨b,0,none⟩) 14 14,.func (.func 77) #[] #[.pointer (some ka)]] W (Makes (.int .i64 (j:Int)) W)):=qq (fun ka b W hE hk ho=>by have:=indexe_of n hn ea ka b W hE hk ho;rw[hs] at this;exact this);obtain⟨o,ho⟩:∃o,o=Obj.cells (own14 ea) 31:=⟨_,rfl⟩
 have HO:Hid (∀W:World,Errs ea W→Calls Tryz.prog 76 #[] W (fun e w'=>e=.returned (.slice (some ⟨W.heap.size,0,none⟩) 14 14)∧w'=W.alloc o)):=qq (fun W hW=>by rw[ho];exact own_of ea W hW);have hO1:∀W:World,Own14 ea (W.alloc o) W.heap.size:=fun W=>by rw[ho];exact own14_of W
 have hO2:∀W:World,(W.alloc o).cell? ⟨W.heap.size,j,none⟩=some (errV (ea n)):=fun W=>by rw[(hO1 W).2 j (by omega),←hj]
 obtain⟨ev,hev⟩:∃ev,ev=errV (ea n):=⟨_,rfl⟩
 have HO1:=qq hO1;have HO2:=qq hO2;clear h hs hn hj ho hO1 hO2;go_enter Tryz.func52,Tryz.ntmps52;go_wp2_with fail;refine(HO.out _ (HE.out.below (by go_grown))).mono ?_;rintro e w1 ⟨rfl,rfl⟩;go_wp2_with fail;have HQ:Own14 ea ((w.alloc (.cells #[errV (ea n)] 31)).alloc o) (w.heap.size+1):=by
  have:=HO1.out (w.alloc (.cells #[errV (ea n)] 31));rwa[World.size_alloc] at this
 refine(HI.out _ _ _ (HE.out.below (by go_grown)) (by simp) HQ).mono ?_;rintro e w2 ⟨rfl,hb2⟩;have B2:Below w.heap.size w w2:=below_then (by go_grown) hb2;go_wp2_with fail;refine(HO.out _ (HE.out.below B2)).mono ?_;rintro e w3 ⟨rfl,rfl⟩;have hq:=HO2.out w2;go_wp2_with fail;go_ret;exact⟨rfl,B2.alloc B2.size _⟩
theorem cell_lt {w:World} {b o:Nat} {v:Value} (h:w.cell? ⟨b,o,none⟩=some v):b<w.heap.size:=by
 by_cases hb:b<w.heap.size
 · exact hb
 · simp[World.cell?,Array.getElem?_eq_none (Nat.le_of_not_lt hb)] at h
theorem fail_yes (v:Value) (w:World):Calls Tryz.prog 41 #[.bool true,v] w (fun e w'=>e=.returned (.tuple #[])∧w=w'):=by
 go_enter Tryz.func41,Tryz.ntmps41;go_wp2_with fail;exact bodyPost_end (results_none rfl _ _ _) rfl ⟨rfl,rfl⟩
theorem fail_no (a:Addr) (w:World):Calls Tryz.prog 41 #[.bool false,errV a] w (fun e w'=>e=.panicked [{v:=errV a,recovered:=false}]∧w=w'):=by
 go_enter Tryz.func41,Tryz.ntmps41;go_wp2_with fail;exact⟨rfl,rfl,rfl⟩
theorem str_size (s:PStr):(⟨s.toArray⟩:ByteArray).size=s.length:=by simp[ByteArray.size]
theorem str_index {s:PStr} {i:Nat} {c:UInt8} (h:s[i]? =some c):∀w:World,(Instr.index 9 (.string ⟨s.toArray⟩) (.int .i64 (i:Int))).run Tryz.prog w=.ok (.int .u8 (c.toNat:Int)) w:=by
 intro w;obtain⟨hi,he⟩:=List.getElem?_eq_some_iff.1 h;rw[run_index_string w _ _ _ _ Tryz.underlying9,dif_pos ⟨by omega,by rw[str_size];omega⟩];have:(⟨s.toArray⟩:ByteArray)[(i:Int).toNat]'(by rw[Int.toNat_natCast];show i<ByteArray.size ⟨s.toArray⟩;rw[str_size];exact hi)=c:=by
  rw[←he];rfl
 rw[this]
theorem str_nil (s:PStr):((⟨s.toArray⟩:ByteArray).toList==(⟨#[]⟩:ByteArray).toList)=s.isEmpty:=by
 rw[ByteArray.toList_eq,ByteArray.toList_eq]
 cases s<;>simp
theorem isLet_int (c:UInt8):isLet c=(decide (97≤(c.toNat:Int)) && decide ((c.toNat:Int)≤122) || decide (65≤(c.toNat:Int)) && decide ((c.toNat:Int)≤90)):=by
 unfold isLet;simp only[UInt8.le_iff_toNat_le];have e1:(97:UInt8).toNat=97:=rfl;have e2:(122:UInt8).toNat=122:=rfl;have e3:(65:UInt8).toNat=65:=rfl;have e4:(90:UInt8).toNat=90:=rfl;rw[e1,e2,e3,e4];have k:∀a b:Nat,decide ((a:Int)≤(b:Int))=decide (a≤b):=fun a b=>by rw[decide_eq_decide];omega
 rw[show(97:Int)=((97:Nat):Int) from rfl,show(122:Int)=((122:Nat):Int) from rfl,show(65:Int)=((65:Nat):Int) from rfl,show(90:Int)=((90:Nat):Int) from rfl,k,k,k,k]
theorem isLetter_of (c:UInt8) (w:World):Calls Tryz.prog 65 #[.int .u8 (c.toNat:Int)] w (Gives (.bool (isLet c)) w):=by
 rw[isLet_int];generalize(c.toNat:Int)=d;go_enter Tryz.func65,Tryz.ntmps65;go_wp2_with fail
 all_goals go_ret
 all_goals (refine⟨ret_bool ?_,rfl⟩;simp_all;(try omega))
theorem rletter_of (c:UInt8) (w:World):Calls Tryz.prog 66 #[.int .u8 (c.toNat:Int)] w (Gives (.bool (isLet c)) w):=by
 rw[isLet_int];generalize(c.toNat:Int)=d;go_enter Tryz.func66,Tryz.ntmps66;go_wp2_with fail
 all_goals go_ret
 all_goals (refine⟨ret_bool ?_,rfl⟩;first | (simp_all;done) | (simp_all;omega) | (simp_all;rw[Bool.or_comm]))
theorem isName_of (s:PStr) (w:World) (hl:s.length≤100000):Calls Tryz.prog 59 #[.string ⟨s.toArray⟩] w (Gives (.bool (isNm s)) w):=by
 have HL:=qq isLetter_of;have HI:=qq (fun(i:Nat) (c:UInt8) (h:s[i]? =some c)=>str_index h);have HN:=qq (str_nil s);have hsz:=str_size s;obtain⟨n,hn⟩:∃n,n=s.length:=⟨_,rfl⟩
 have HNN:=qq hn;rw[←hn] at hsz hl;clear hn;go_enter Tryz.func59,Tryz.ntmps59;go_wp2_with fail;go_loopw [6] (fun cc wr=>∃i:Nat,i≤n∧cc=.int .i64 (i:Int)∧wr=w∧Hid (∀(j:Nat) (c:UInt8),j<i→s[j]? =some c→isLet c=true)) (fun cc _=>n - (intOf cc).toNat)
 case atStart=>exact⟨0,by omega,by first | rfl | go_num,by first | rfl | exact True.intro,qq (fun j c h=>by omega)⟩
 case round=>
  obtain⟨i,hi,rfl,rfl,HA⟩:=hrel;have hi0:(0:Int)≤(i:Int):=by omega
  by_cases hlt:i<n
  · have hi1:(i:Int)<(n:Int):=by omega
    obtain⟨c,hc⟩:∃c,s[i]? =some c:=⟨_,List.getElem?_eq_getElem (by rw[←HNN.out];exact hlt)⟩
    have hix:=HI.out i c hc;have HC:=qq hc;clear hc hlt;go_wp2_with fail;refine(HL.out c _).mono ?_;rintro e w2 ⟨rfl,rfl⟩
    cases hq:isLet c with
    | true=>
     have HQ:=qq hq;go_wp2_with fail;go_roundw
     case rel=>exact⟨i+1,by omega,by go_num,by first | rfl | exact True.intro,qq (fun j d hj hd=>by
       rcases Nat.lt_or_ge j i with h | h
       · exact HA.out j d h hd
       · obtain rfl:j=i:=by omega
         rw[HC.out] at hd;injection hd with hd
         rw[←hd];exact HQ.out)⟩
     case measure=>simp[intOf];omega
    | false=>
     have HNO:Hid (isNm s=false):=qq (by
       unfold isNm;have:s.all isLet=false:=by
         rw[List.all_eq_false];exact⟨c,List.mem_of_getElem? HC.out,by rw[hq];simp⟩
       rw[this];rfl)
     clear hq;go_wp2_with fail;go_ret;exact⟨ret_bool HNO.out.symm,rfl⟩
  · have HAL:Hid (s.all isLet=true):=qq (by
      rw[List.all_eq_true];intro c hc;obtain⟨j,hj,rfl⟩:=List.getElem_of_mem hc;exact HA.out j _ (by have:=HNN.out;omega) (List.getElem?_eq_getElem hj))
    have HV:Hid (isNm s=(!s.isEmpty && decide (n≤40))):=qq (by
      unfold isNm;rw[HAL.out,←HNN.out];simp)
    have hne:=HN.out;clear HA;go_wp2_with fail
    all_goals go_ret
    all_goals (refine⟨ret_bool ?_,rfl⟩;rw[HV.out];have k:decide ((n:Int)≤40)=decide (n≤40):=(by rw[decide_eq_decide];omega);have h2:=HNN.out;simp_all)
end Go.Proofs.YtbepkpjcjpmpmaaGreatDoor
