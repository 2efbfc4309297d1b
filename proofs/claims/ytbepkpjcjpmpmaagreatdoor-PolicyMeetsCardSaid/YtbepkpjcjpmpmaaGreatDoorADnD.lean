/- DnD -/
import Derived.Test.YtbepkpjcjpmpmaaGreatDoorADnBToDnC
set_option linter.unusedSimpArgs false
set_option linter.unusedVariables false
set_option maxRecDepth 100000
set_option maxHeartbeats 16000000
namespace Go.Proofs.YtbepkpjcjpmpmaaGreatDoor
open Go.RowKit Go.Shelf
def NxtX (P:Program) (md:Region.Mode) (ops:Array Oper) (Q:Exit→Act→World→Prop) (ex:Nat→Bool) (S:World→Prop) (fuel:Nat) (listed:Array Bool) (i:Nat) (a:Act) (w:World):Prop:=(ex i=true∨S w)∧wpAnyX P md ops Q ex S fuel (listed.setIfInBounds i true) a w
theorem two_X {P : Program} {ops : Array Oper} {Q : Exit → Act → World → Prop} {md : Region.Mode} {S : World → Prop} {ex : Nat → Bool} {fuel : Nat} {listed : Array Bool} {a : Act} {w : World} (i j : Nat) (hr : Region.ready md ops listed = [i, j])
    (h1:wpOp P ops Q i (NxtX P md ops Q ex S fuel listed i) a w) (h2:wpOp P ops Q j (NxtX P md ops Q ex S fuel listed j) a w):wpAnyX P md ops Q ex S (fuel+1) listed a w:=
 ⟨fun h0=>absurd (hr▸h0) (by simp),fun k hk=>by
   rw[hr] at hk;rcases(by simpa using hk:k=i∨k=j) with rfl | rfl
   · exact h1
   · exact h2⟩
theorem new_O {P : Program} {ops : Array Oper} {Q : Exit → Act → World → Prop} {md : Region.Mode} {S : World → Prop} {ex : Nat → Bool} {fuel : Nat} {listed : Array Bool} {a : Act} {w : World} {oi : Oper} {d : Option Tmp} (i : Nat) (v : Value) (C : Array Value) (T : TypeId) (hi : ops[i]? = some oi) (hd : oi.dst = d) (hrun : (execOp a.eval oi).run P w = .ok (.value v) (w.alloc (.cells C T))) (hS : S (w.alloc (.cells C T)))
    (h:S (w.alloc (.cells C T))→wpAnyX P md ops Q ex S fuel (listed.setIfInBounds i true) (a.put d v) (w.alloc (.cells C T))) (hw:Region.wanted oi (yielded ops a.tmps)=true:=by rfl):wpOp P ops Q i (NxtX P md ops Q ex S fuel listed i) a w:=
 wpOp_alone i v _ hi hd hw hrun (show NxtX P md ops Q ex S fuel listed i (a.put d v) (w.alloc (.cells C T)) from⟨.inr hS,h hS⟩)
theorem app_O {Q : Exit → Act → World → Prop} {ops : Array Oper} {md : Region.Mode} {ex : Nat → Bool} {S : World → Prop} {fuel : Nat} {listed : Array Bool} {a : Act} {w : World} {oi : Oper} {d : Option Tmp} (i : Nat) (hi : ops[i]? = some oi) (hd : oi.dst = d) (hgd : oi.guard = none) (s x : Operand) (t : TypeId)
    (ho:oi.op=.call {callee:=.builtin .append,args:= #[s,x],argTypes:= #[t,t]})
    (base:Nat) (e:TypeId) (inf:TypeInfo) (z:Value) (size bytes:Nat) (ht:Tryz.prog.underlying t=some (.slice e)) (hinf:Tryz.prog.info? e=some inf) (hz:inf.zero=some z)
    (hsize:inf.size=size) (hby:inf.bytes=bytes) (hzs:z.cells.size=size) (hsz:0<size)
    (v:Value) (n:Nat) (xs:List Value) (hs:a.eval s=v) (hown:w.ownsRow base e size v n xs)
    (ad:Addr) (m c:Nat) (news:List Value) (hx:a.eval x=.slice (some ad) m c) (hl:news.length=m*size) (hnews:∀j u,news[j]? =some u→w.cell? (ad.add j)=some u) (h1:∀u∈news,u.oneCell'=true)
    (h63:n+m≤maxLen) (hbytes:(n+m)*bytes≤140737488355328) (hbase:base≤w.heap.size)
    (h:∀v' w',w'.ownsRow base e size v' (n+m) (xs ++news)→w.grownBy w' v.ownBlock→(v'.ownBlock=v.ownBlock∨v'.ownBlock=some w.heap.size)→(ex i=true∨S w')∧wpAnyX Tryz.prog md ops Q ex S fuel (listed.setIfInBounds i true) (a.put d v') w'):
    wpOp Tryz.prog ops Q i (NxtX Tryz.prog md ops Q ex S fuel listed i) a w:=by
 subst hd;refine wpOp_step hi (fun K' hK=> ?_);refine step_app hgd s x t ho base e inf z size bytes ht hinf hz hsize hby hzs hsz v n xs hs hown ad m c news hx hl hnews h1 h63 hbytes hbase ?_;intro v' w' h2 h3 h4;exact hK _ _ (h v' w' h2 h3 h4)
theorem ins_pre {α:Type} {lt:α→α→Bool} (h:TO lt) (s:α):∀(P r:List α),(∀x∈P,lt x s=true)→ins lt s (P ++r)=P ++ins lt s r
 | [],r,_=>rfl
 | x::P,r,hp=>by
  have hx:=hp x (by simp);show ins lt s (x::(P ++r))=x::(P ++ins lt s r)
  rw[ins,if_neg (by rw[h.asym hx];simp),if_pos hx,ins_pre h s P r (fun y hy=>hp y (by simp[hy]))]
theorem ins_here {α:Type} {lt:α→α→Bool} (h:TO lt) (s:α) (o:List α) (k:Nat) (hp:∀(j:Nat) x,j<k→o[j]? =some x→lt x s=true) (hk:k≤o.length) (hn:∀x,o[k]? =some x→lt x s=false∧x≠s):ins lt s o=o.take k ++ [s] ++o.drop k:=by
 have e:o=o.take k ++o.drop k:=(List.take_append_drop k o).symm
 conv=>lhs;rw[e]
 rw[ins_pre h s _ _ (fun x hx=>by
   obtain⟨j,hj,rfl⟩:=List.getElem_of_mem hx;rw[List.length_take] at hj;exact hp j _ (by omega) (by rw[List.getElem?_eq_getElem (by omega),List.getElem_take]))]
 rw[List.append_assoc];congr 1
 cases hd:o.drop k with
 | nil=>rfl
 | cons y t=>
  have hy:o[k]? =some y:=by
   have:=congrArg (fun l=>l[0]?) hd;simpa using this
  obtain⟨h1,h2⟩:=hn y hy;have h3:lt s y=true:=by
   cases q:lt s y with
   | true=>rfl
   | false=>exact absurd (h.eq y s h1 q) h2
  rw[ins,if_pos h3];rfl
theorem ins_there {α:Type} {lt:α→α→Bool} (h:TO lt) (s:α) (o:List α) (k:Nat) (hp:∀(j:Nat) x,j<k→o[j]? =some x→lt x s=true) (hk:o[k]? =some s):ins lt s o=o:=by
 have e:o=o.take k ++o.drop k:=(List.take_append_drop k o).symm
 conv=>lhs;rw[e]
 have hkl:=(List.getElem?_eq_some_iff.1 hk).1;rw[ins_pre h s _ _ (fun x hx=>by
   obtain⟨j,hj,rfl⟩:=List.getElem_of_mem hx;rw[List.length_take] at hj;exact hp j _ (by omega) (by rw[List.getElem?_eq_getElem (by omega),List.getElem_take]))]
 have hd:o.drop k=s::o.drop (k+1):=by
  obtain⟨h1,e1⟩:=List.getElem?_eq_some_iff.1 hk;rw[List.drop_eq_getElem_cons h1,e1]
 rw[hd,ins,if_neg (by rw[h.irr];simp),if_neg (by rw[h.irr];simp),←hd,List.take_append_drop]
theorem uni_snoc {α:Type} {lt:α→α→Bool} (o l:List α) (x:α):uni lt o (l ++ [x])=ins lt x (uni lt o l):=by
 unfold uni;rw[List.foldl_append];rfl
def SetEnds (l:PAlt) (w:World) (e:Ending) (w':World):Prop:=∃v,e=.returned v∧AltV w.heap.size w' v (pSet l)∧Below w.heap.size w w'
def NmRow (B:Nat) (w:World) (g m c:Nat) (o:PAlt):Prop:=m=o.length∧w.ownsRow B 9 1 (.slice (some ⟨g,0,none⟩) m c) m (o.map encStr)
theorem NmRow.cell {B:Nat} {w:World} {g m c:Nat} {o:PAlt} (h:NmRow B w g m c o) {j:Nat} {x:PStr} (hx:o[j]? =some x):w.cell? ⟨g,j,none⟩=some (encStr x):=by
 have:=h.2.cells (g:=g) rfl j (encStr x) (by rw[List.getElem?_map,hx];rfl);rwa[Addr.add_lit,Nat.zero_add] at this
theorem NmRow.cap {B:Nat} {w:World} {g m c:Nat} {o:PAlt} (h:NmRow B w g m c o):m≤c∧g<w.heap.size∧B≤g:=by
 rcases h.2.2 with⟨hv,_⟩ | ⟨g2,cap,cur,hv,hg1,hg2,hle,_⟩
 · cases hv
 · injection hv with e1 _ e3
   injection e1 with e1
   injection e1 with e1
   subst e1 e3;exact⟨hle,(Array.getElem?_eq_some_iff.1 hg2).1,hg1⟩
theorem NmRow.be {B:Nat} {w w':World} {g m c:Nat} {o:PAlt} (h:NmRow B w g m c o) (hb:Below w.heap.size w w'):NmRow B w' g m c o:=⟨h.1,row_be h.2 hb⟩
theorem NmRow.take_cells {B:Nat} {w:World} {g m c:Nat} {o:PAlt} (h:NmRow B w g m c o) (k:Nat):∀W,Below w.heap.size w W→∀j u,((o.take k).map encStr)[j]? =some u→W.cell? ((⟨g,0,none⟩:Addr).add j)=some u:=fun W hW j u hu=>by
 rw[List.getElem?_map] at hu;obtain⟨x,hx,rfl⟩:=Option.map_eq_some_iff.1 hu;have hx2:o[j]? =some x:=by
  rw[List.getElem?_take] at hx;split at hx
  · exact hx
  · cases hx
 rw[Addr.add_lit,Nat.zero_add];exact(hW.cell (p:=⟨g,j,none⟩) h.cap.2.1).trans (h.cell hx2)
theorem NmRow.drop_cells {B:Nat} {w:World} {g m c:Nat} {o:PAlt} (h:NmRow B w g m c o) {k:Nat} (hk:k≤m):∃ad,(if c=k then some (⟨g,0,none⟩:Addr) else some ⟨g,k,none⟩)=some ad∧∀W,Below w.heap.size w W→∀j u,((o.drop k).map encStr)[j]? =some u→W.cell? (ad.add j)=some u:=by
 have hc:=h.cap;by_cases he:c=k
 · rw[if_pos he];refine⟨_,rfl,fun W hW j u hu=> ?_⟩;have:o.drop k=[]:=List.drop_eq_nil_of_le (by rw[←h.1];omega);rw[this] at hu
   cases hu
 · rw[if_neg he];refine⟨_,rfl,fun W hW j u hu=> ?_⟩;rw[List.getElem?_map] at hu;obtain⟨x,hx,rfl⟩:=Option.map_eq_some_iff.1 hu;rw[List.getElem?_drop] at hx;rw[Addr.add_lit];exact(hW.cell (p:=⟨g,k+j,none⟩) hc.2.1).trans (h.cell hx)
theorem enc_one (l:PAlt):∀u∈l.map encStr,u.oneCell'=true:=fun u hu=>by
 obtain⟨x,_,rfl⟩:=List.mem_map.1 hu;rfl
theorem set_of (B : Nat) (vl : Value) (l : PAlt) (w : World) (hl : AltV B w vl l) (hn : l.length ≤ 1000) :
    Calls Tryz.prog 23 #[vl] w (SetEnds l w):=by
 obtain⟨i0,ei,ez,es,eb⟩:=info_parts infoStr;have HL:=qq (fun W (hW:Below w.heap.size w W)=>alt_cell (row_be hl hW));obtain⟨al,cl,rfl⟩:=row_slice hl;obtain⟨n,hnn⟩:∃n,n=l.length:=⟨_,rfl⟩
 have HN:=qq hnn;rw[←hnn] at hn⊢;have HRES:Hid (∀v w',AltV w.heap.size w' v (pSet l)→Below w.heap.size w w'→SetEnds l w (.returned v) w'):=qq (fun v w' h1 h2=>⟨v,rfl,h1,h2⟩);generalize SetEnds l w=R at HRES⊢;clear hl hnn;go_enter Tryz.func23,Tryz.ntmps23;go_wp2_with fail
 go_loopw [3,10] (fun ov cc wr=>∃(i m g c:Nat) (o:PAlt),i≤n∧m≤i∧ov=.slice (some ⟨g,0,none⟩) m c∧cc=.int .i64 (i:Int)∧Hid (o=pSet (l.take i))∧Hid (NmRow w.heap.size wr g m c o)∧Hid (Below w.heap.size w wr)) (fun _ cc _=>n - (intOf cc).toNat)
 case atStart=>exact⟨0,0,w.heap.size,0,[],by omega,by omega,by first | rfl | exact True.intro,by first | rfl | go_num,qq rfl,qq ⟨rfl,own_emptyB w w.heap.size _ _ (Nat.le_refl _)⟩,qq ((Below.refl _ _).alloc (Nat.le_refl _) _)⟩
 case round=>
  obtain⟨i,m,g,c,o,hi,hmi,rfl,rfl,HO,HR,HB⟩:=hrel;obtain⟨W,rfl⟩:∃W,W=wr:=⟨_,rfl⟩
  have hi0:(0:Int)≤(i:Int):=by omega
  by_cases hlt:i<n
  · have hi1:(i:Int)<(n:Int):=by omega
    obtain⟨s,hs⟩:∃s,l[i]? =some s:=⟨_,List.getElem?_eq_getElem (by rw[←HN.out];exact hlt)⟩
    obtain⟨_,_,ev,hcl⟩:=HL.out _ HB.out;injection ev with ev1 evn ev2
    clear evn;subst ev1 ev2;obtain⟨gl,rfl,cS,lS,kS⟩:=hcl i s hs;rw[←HN.out] at kS;have HO2:Hid (pSet (l.take (i+1))=ins ltN s o):=qq (by rw[take_snoc hs,HO.out];exact uni_snoc _ _ _);clear hcl hs hlt;have hWz:=HB.out.size;obtain⟨hmc,hgW,hgB⟩:=HR.out.cap;go_wp2_with fail
    go_loopw [6] (fun kk wr=>wr=W∧∃k:Nat,k≤m∧kk=.int .i64 (k:Int)∧Hid (∀(j:Nat) x,j<k→o[j]? =some x→ltN x s=true)) (fun kk _=>m - (intOf kk).toNat)
    case atStart=>exact⟨by first | rfl | exact True.intro,0,by omega,by first | rfl | go_num,qq (fun j x h=>by omega)⟩
    case round=>
     obtain⟨hwr,k,hk,rfl,HK⟩:=hrel;have hwr2:=hwr.symm;clear hwr;subst hwr2;have hk0:(0:Int)≤(k:Int):=by omega
     by_cases hkm:k<m
     · have hk1:(k:Int)<(m:Int):=by omega
       obtain⟨x,hx⟩:∃x,o[k]? =some x:=⟨_,List.getElem?_eq_getElem (by rw[←HR.out.1];exact hkm)⟩
       have cX:=HR.out.cell hx;have HX:=qq hx;have HLS:=qq (less_lt x s);clear hx
       cases hxs:ltN x s with
       | true=>
        have qLS:=HLS.out.trans hxs;have HK2:Hid (∀(j:Nat) y,j<k+1→o[j]? =some y→ltN y s=true):=qq (fun j y hj hy=>by
          rcases Nat.lt_or_ge j k with h | h
          · exact HK.out j y h hy
          · obtain rfl:j=k:=by omega
            rw[HX.out] at hy;injection hy with hy
            rw[←hy];exact hxs)
        clear hxs;go_wp2_with fail;go_roundw
        case rel=>exact⟨by first | rfl | exact True.intro,k+1,by omega,by go_num,HK2⟩
        case measure=>simp[intOf];omega
       | false=>
        have qLS:=HLS.out.trans hxs;by_cases hxe:x=s
        · have HIN:Hid (pSet (l.take (i+1))=o):=qq (by rw[HO2.out];exact ins_there toN s o k HK.out (by rw[HX.out,hxe]));subst hxe;clear hxs;go_wp2_with fail;go_roundw
          case rel=>exact⟨i+1,m,g,c,o,by omega,by omega,by first | rfl | exact True.intro,by go_num,qq HIN.out.symm,HR,HB⟩
          case measure=>simp[intOf];omega
        · have HIN:Hid (pSet (l.take (i+1))=o.take k ++ [s] ++o.drop k):=qq (by rw[HO2.out];exact ins_here toN s o k HK.out (by rw[←HR.out.1];omega) (fun y hy=>by rw[HX.out] at hy;injection hy with hy;subst hy;exact⟨hxs,hxe⟩));have qNE:(x==s)=false:=by simpa using hxe
          clear hxs hxe;go_wp2_with fail;clear cX qLS qNE;clear cS;refine reg_startZ (fun w'=>Below w.heap.size w w') (fun w'=>Below W.heap.size W w') (by kernel_rfl) (bel_drew HB.out) (Below.refl _ _).drew (fun _=>false) ?_;rintro w1 hHeld hB1;have hkm2:(k:Int)≤(m:Int):=by omega
          have hkc:(k:Int)≤(c:Int):=by omega
          have hmc2:(m:Int)≤(c:Int):=by omega
          refine takeX (d:=some 41) 1 rfl rfl hHeld (fun w' hS'=>by clear hS';go_simp;(try rfl)) ?_;simp only[puts];refine takeX (d:=some 42) 2 rfl rfl hHeld (fun w' hS'=>by clear hS';go_simp;(try rfl)) ?_;simp only[puts];refine takeX (d:=some 43) 3 rfl rfl hHeld (fun w' hS'=>by clear hS';go_simp;(try rfl)) ?_;simp only[puts]
          refine takeX (d:=some 45) 5 rfl rfl hHeld (fun w' hS'=>by clear hS';go_simp;(try rfl)) ?_;simp only[puts];refine takeX (d:=some 48) 8 rfl rfl hHeld (fun w' hS'=>by clear hS';go_simp;(try rfl)) ?_;simp only[puts];refine takeX (d:=some 49) 9 rfl rfl hHeld (fun w' hS'=>by clear hS';go_simp;(try rfl)) ?_;simp only[puts]
          refine takeX (d:=some 50) 10 rfl rfl hHeld (fun w' hS'=>by clear hS';go_simp;(try rfl)) ?_;simp only[puts];obtain⟨ad,hAD,hCD⟩:=HR.out.drop_cells hk;rw[hAD];have hTC:=HR.out.take_cells k;have HCD:=qq hCD;have HTC:=qq hTC;have hol:m=o.length:=HR.out.1;have htl:((o.take k).map encStr).length=k*1:=by simp;omega
          have hdl:((o.drop k).map encStr).length=(m - k)*1:=by simp;omega
          have HTL:=qq htl;have HDL:=qq hdl;clear hAD hCD hTC htl hdl hol;have hB1z:=hB1.size;refine two_X 0 6 (by kernel_rfl) ?_ ?_
          · refine new_O (d:=some 40) 0 (.slice (some ⟨w1.heap.size,0,none⟩) 0 0) #[] 9 rfl rfl (by go_simp) (bel_alloc hHeld _) (fun hHeld=> ?_);simp only[puts];have hBu:Below W.heap.size W (w1.alloc (.cells #[] 9)):=hB1.alloc hB1.size _;have hR0:=own_emptyB w1 W.heap.size 9 1 hB1.size;refine two_X 4 6 (by kernel_rfl) ?_ ?_
            · refine app_O (d:=some 44) 4 rfl rfl rfl (.tmp 40) (.tmp 43) 49 rfl W.heap.size 9 i0 (.string ⟨#[]⟩) 1 16 Tryz.underlying49 ei ez es eb rfl (by decide) (.slice (some ⟨w1.heap.size,0,none⟩) 0 0) 0 [] (by rfl) hR0 ⟨g,0,none⟩ k c ((o.take k).map encStr) (by rfl) HTL.out (HTC.out _ hBu) (enc_one _) (by unfold maxLen;omega) (by omega) (by have h9:=hBu.size;exact h9) ?_
              intro vw4 w4 hownw4 hgrow hat;have hOw4:=fun q hq=>(hR0.lt q hq).1
              have hBw4:Below W.heap.size W w4:=hBu.grown hgrow hBu.size (fun q hq=>hOw4 q hq);replace hHeld:Below w.heap.size w w4:=below_then HB.out hBw4;clear hgrow hat hOw4;refine⟨.inr hHeld,?_⟩;simp only[puts];refine new_X (d:=some 46) 6 (.slice (some ⟨w4.heap.size,0,none⟩) 1 1) #[encStr s] 9 rfl rfl (by go_simp) (bel_alloc hHeld _) (fun hHeld _=> ?_);simp only[puts]
              have hba:Below w4.heap.size w4 (w4.alloc (.cells #[encStr s] 9)):=(Below.refl _ _).alloc (Nat.le_refl _) _;have hB5:=below_then hBw4 hba;have hP5:=Blk.fresh w4 #[encStr s] 9 _ rfl;have hR5:(w4.alloc (.cells #[encStr s] 9)).ownsRow W.heap.size 9 1 vw4 k ((o.take k).map encStr):=row_be (by simpa using hownw4) hba;clear hR0 hBu hownw4 hba
              refine app_X (d:=some 47) 7 rfl rfl rfl (.tmp 44) (.tmp 46) 49 rfl W.heap.size 9 i0 (.string ⟨#[]⟩) 1 16 Tryz.underlying49 ei ez es eb rfl (by decide) vw4 k ((o.take k).map encStr) (by rfl) hR5 ⟨w4.heap.size,0,none⟩ 1 1 [encStr s] (by rfl) rfl (lit_cells hP5) (by intro u hu;obtain rfl:=List.mem_singleton.1 hu;rfl) (by unfold maxLen;omega) (by omega) (by have h9:=hB5.size;exact h9) ?_
              intro vw7 w7 hownw7 hgrow hat;have hOw7:=fun q hq=>(hR5.lt q hq).1
              have hBw7:Below W.heap.size W w7:=hB5.grown hgrow hB5.size (fun q hq=>hOw7 q hq);replace hHeld:Below w.heap.size w w7:=below_then HB.out hBw7;clear hgrow hat hOw7;refine⟨.inr hHeld,?_⟩;simp only[puts]
              refine app_X (d:=some 51) 11 rfl rfl rfl (.tmp 47) (.tmp 50) 49 rfl W.heap.size 9 i0 (.string ⟨#[]⟩) 1 16 Tryz.underlying49 ei ez es eb rfl (by decide) vw7 (k+1) ((o.take k).map encStr ++ [encStr s]) (by rfl) hownw7 ad (m - k) (c - k) ((o.drop k).map encStr) (by rfl) HDL.out (HCD.out w7 hBw7) (enc_one _) (by unfold maxLen;omega) (by omega) (by have h9:=hBw7.size;exact h9) ?_
              intro vw8 w8 hownw8 hgrow hat;have hOw8:=fun q hq=>(hownw7.lt q hq).1
              have hBw8:Below W.heap.size W w8:=hBw7.grown hgrow hBw7.size (fun q hq=>hOw8 q hq);replace hHeld:Below w.heap.size w w8:=below_then HB.out hBw8;clear hgrow hat hOw8;refine⟨.inr hHeld,?_⟩;simp only[puts];refine takeX (d:=some 3) 12 rfl rfl hHeld (fun w' hS'=>by clear hS';go_simp;(try rfl)) ?_;simp only[puts];refine doneX (by kernel_rfl) ?_ _
              obtain⟨g2,c2,hv8⟩:∃g2 c2,vw8=.slice (some ⟨g2,0,none⟩) (k+1+(m - k)) c2:=by
               rcases hownw8.2 with⟨_,hm0⟩ | ⟨g2,cap,cur,hv,_⟩
               · omega
               · exact⟨g2,cap,hv⟩
              subst hv8;have e1:k+1+(m - k)=m+1:=by omega
              rw[e1] at hownw8⊢;have HR8:Hid (NmRow w.heap.size w8 g2 (m+1) c2 (pSet (l.take (i+1)))):=qq ⟨by rw[HIN.out];simp;have:=HR.out.1;omega,by
                rw[HIN.out,List.map_append,List.map_append];exact row_base hownw8 hWz⟩
              have HB8:=qq hHeld;clear hownw8 hownw7 hBw7 hBw8 hHeld hR5 hP5 hB5 e1;go_wp2_with fail;go_roundw
              case rel=>exact⟨i+1,m+1,g2,c2,_,by omega,by omega,by first | rfl | exact True.intro,by go_num,qq rfl,HR8,HB8⟩
              case measure=>simp[intOf];omega
            · refine new_O (d:=some 46) 6 (.slice (some ⟨(w1.alloc (.cells #[] 9)).heap.size,0,none⟩) 1 1) #[encStr s] 9 rfl rfl (by go_simp) (bel_alloc hHeld _) (fun hHeld=> ?_);simp only[puts];have hba:Below (w1.alloc (.cells #[] 9)).heap.size (w1.alloc (.cells #[] 9)) ((w1.alloc (.cells #[] 9)).alloc (.cells #[encStr s] 9)):=(Below.refl _ _).alloc (Nat.le_refl _) _;have hR1:=row_be hR0 hba
              have hB2:=below_then hBu hba;have hP2:=Blk.fresh (w1.alloc (.cells #[] 9)) #[encStr s] 9 _ rfl
              refine app_X (d:=some 44) 4 rfl rfl rfl (.tmp 40) (.tmp 43) 49 rfl W.heap.size 9 i0 (.string ⟨#[]⟩) 1 16 Tryz.underlying49 ei ez es eb rfl (by decide) (.slice (some ⟨w1.heap.size,0,none⟩) 0 0) 0 [] (by rfl) hR1 ⟨g,0,none⟩ k c ((o.take k).map encStr) (by rfl) HTL.out (HTC.out _ hB2) (enc_one _) (by unfold maxLen;omega) (by omega) (by have h9:=hB2.size;exact h9) ?_
              intro vw4 w4 hownw4 hgrow hat;have hOw4:=fun q hq=>(hR1.lt q hq).1
              have hP5:=Blk.same hP2 hgrow.size (hgrow.block _ (by simp;try omega) (fun e=>by injection e with e;simp at e));have hBw4:Below W.heap.size W w4:=hB2.grown hgrow hB2.size (fun q hq=>hOw4 q hq);replace hHeld:Below w.heap.size w w4:=below_then HB.out hBw4;clear hgrow hat hOw4;refine⟨.inr hHeld,?_⟩;simp only[puts];have hB5:=hBw4
              have hR5:w4.ownsRow W.heap.size 9 1 vw4 k ((o.take k).map encStr):=by simpa using hownw4
              clear hR0 hBu hownw4 hba hR1 hB2 hP2
              refine app_X (d:=some 47) 7 rfl rfl rfl (.tmp 44) (.tmp 46) 49 rfl W.heap.size 9 i0 (.string ⟨#[]⟩) 1 16 Tryz.underlying49 ei ez es eb rfl (by decide) vw4 k ((o.take k).map encStr) (by rfl) hR5 ⟨(w1.alloc (.cells #[] 9)).heap.size,0,none⟩ 1 1 [encStr s] (by rfl) rfl (lit_cells hP5) (by intro u hu;obtain rfl:=List.mem_singleton.1 hu;rfl) (by unfold maxLen;omega) (by omega) (by have h9:=hB5.size;exact h9) ?_
              intro vw7 w7 hownw7 hgrow hat;have hOw7:=fun q hq=>(hR5.lt q hq).1
              have hBw7:Below W.heap.size W w7:=hB5.grown hgrow hB5.size (fun q hq=>hOw7 q hq);replace hHeld:Below w.heap.size w w7:=below_then HB.out hBw7;clear hgrow hat hOw7;refine⟨.inr hHeld,?_⟩;simp only[puts]
              refine app_X (d:=some 51) 11 rfl rfl rfl (.tmp 47) (.tmp 50) 49 rfl W.heap.size 9 i0 (.string ⟨#[]⟩) 1 16 Tryz.underlying49 ei ez es eb rfl (by decide) vw7 (k+1) ((o.take k).map encStr ++ [encStr s]) (by rfl) hownw7 ad (m - k) (c - k) ((o.drop k).map encStr) (by rfl) HDL.out (HCD.out w7 hBw7) (enc_one _) (by unfold maxLen;omega) (by omega) (by have h9:=hBw7.size;exact h9) ?_
              intro vw8 w8 hownw8 hgrow hat;have hOw8:=fun q hq=>(hownw7.lt q hq).1
              have hBw8:Below W.heap.size W w8:=hBw7.grown hgrow hBw7.size (fun q hq=>hOw8 q hq);replace hHeld:Below w.heap.size w w8:=below_then HB.out hBw8;clear hgrow hat hOw8;refine⟨.inr hHeld,?_⟩;simp only[puts];refine takeX (d:=some 3) 12 rfl rfl hHeld (fun w' hS'=>by clear hS';go_simp;(try rfl)) ?_;simp only[puts];refine doneX (by kernel_rfl) ?_ _
              obtain⟨g2,c2,hv8⟩:∃g2 c2,vw8=.slice (some ⟨g2,0,none⟩) (k+1+(m - k)) c2:=by
               rcases hownw8.2 with⟨_,hm0⟩ | ⟨g2,cap,cur,hv,_⟩
               · omega
               · exact⟨g2,cap,hv⟩
              subst hv8;have e1:k+1+(m - k)=m+1:=by omega
              rw[e1] at hownw8⊢;have HR8:Hid (NmRow w.heap.size w8 g2 (m+1) c2 (pSet (l.take (i+1)))):=qq ⟨by rw[HIN.out];simp;have:=HR.out.1;omega,by
                rw[HIN.out,List.map_append,List.map_append];exact row_base hownw8 hWz⟩
              have HB8:=qq hHeld;clear hownw8 hownw7 hBw7 hBw8 hHeld hR5 hP5 hB5 e1;go_wp2_with fail;go_roundw
              case rel=>exact⟨i+1,m+1,g2,c2,_,by omega,by omega,by first | rfl | exact True.intro,by go_num,qq rfl,HR8,HB8⟩
              case measure=>simp[intOf];omega
          · refine new_O (d:=some 46) 6 (.slice (some ⟨w1.heap.size,0,none⟩) 1 1) #[encStr s] 9 rfl rfl (by go_simp) (bel_alloc hHeld _) (fun hHeld=> ?_);simp only[puts];have hba:Below w1.heap.size w1 (w1.alloc (.cells #[encStr s] 9)):=(Below.refl _ _).alloc (Nat.le_refl _) _;have hB2:=below_then hB1 hba;have hP2:=Blk.fresh w1 #[encStr s] 9 _ rfl
            refine new_X (d:=some 40) 0 (.slice (some ⟨(w1.alloc (.cells #[encStr s] 9)).heap.size,0,none⟩) 0 0) #[] 9 rfl rfl (by go_simp) (bel_alloc hHeld _) (fun hHeld _=> ?_);simp only[puts];have hbb:Below (w1.alloc (.cells #[encStr s] 9)).heap.size (w1.alloc (.cells #[encStr s] 9)) ((w1.alloc (.cells #[encStr s] 9)).alloc (.cells #[] 9)):=(Below.refl _ _).alloc (Nat.le_refl _) _
            have hR1:=own_emptyB (w1.alloc (.cells #[encStr s] 9)) W.heap.size 9 1 hB2.size;have hB3:=below_then hB2 hbb;have hP3:=hP2.below hbb
            refine app_X (d:=some 44) 4 rfl rfl rfl (.tmp 40) (.tmp 43) 49 rfl W.heap.size 9 i0 (.string ⟨#[]⟩) 1 16 Tryz.underlying49 ei ez es eb rfl (by decide) (.slice (some ⟨(w1.alloc (.cells #[encStr s] 9)).heap.size,0,none⟩) 0 0) 0 [] (by rfl) hR1 ⟨g,0,none⟩ k c ((o.take k).map encStr) (by rfl) HTL.out (HTC.out _ hB3) (enc_one _) (by unfold maxLen;omega) (by omega) (by have h9:=hB3.size;exact h9) ?_
            intro vw4 w4 hownw4 hgrow hat;have hOw4:=fun q hq=>(hR1.lt q hq).1
            have hP5:=Blk.same hP3 hgrow.size (hgrow.block _ (by simp;try omega) (fun e=>by injection e with e;simp at e));have hBw4:Below W.heap.size W w4:=hB3.grown hgrow hB3.size (fun q hq=>hOw4 q hq);replace hHeld:Below w.heap.size w w4:=below_then HB.out hBw4;clear hgrow hat hOw4;refine⟨.inr hHeld,?_⟩;simp only[puts];have hB5:=hBw4
            have hR5:w4.ownsRow W.heap.size 9 1 vw4 k ((o.take k).map encStr):=by simpa using hownw4
            clear hownw4 hba hR1 hB2 hP2 hB3 hP3 hbb
            refine app_X (d:=some 47) 7 rfl rfl rfl (.tmp 44) (.tmp 46) 49 rfl W.heap.size 9 i0 (.string ⟨#[]⟩) 1 16 Tryz.underlying49 ei ez es eb rfl (by decide) vw4 k ((o.take k).map encStr) (by rfl) hR5 ⟨w1.heap.size,0,none⟩ 1 1 [encStr s] (by rfl) rfl (lit_cells hP5) (by intro u hu;obtain rfl:=List.mem_singleton.1 hu;rfl) (by unfold maxLen;omega) (by omega) (by have h9:=hB5.size;exact h9) ?_
            intro vw7 w7 hownw7 hgrow hat;have hOw7:=fun q hq=>(hR5.lt q hq).1
            have hBw7:Below W.heap.size W w7:=hB5.grown hgrow hB5.size (fun q hq=>hOw7 q hq);replace hHeld:Below w.heap.size w w7:=below_then HB.out hBw7;clear hgrow hat hOw7;refine⟨.inr hHeld,?_⟩;simp only[puts]
            refine app_X (d:=some 51) 11 rfl rfl rfl (.tmp 47) (.tmp 50) 49 rfl W.heap.size 9 i0 (.string ⟨#[]⟩) 1 16 Tryz.underlying49 ei ez es eb rfl (by decide) vw7 (k+1) ((o.take k).map encStr ++ [encStr s]) (by rfl) hownw7 ad (m - k) (c - k) ((o.drop k).map encStr) (by rfl) HDL.out (HCD.out w7 hBw7) (enc_one _) (by unfold maxLen;omega) (by omega) (by have h9:=hBw7.size;exact h9) ?_
            intro vw8 w8 hownw8 hgrow hat;have hOw8:=fun q hq=>(hownw7.lt q hq).1
            have hBw8:Below W.heap.size W w8:=hBw7.grown hgrow hBw7.size (fun q hq=>hOw8 q hq);replace hHeld:Below w.heap.size w w8:=below_then HB.out hBw8;clear hgrow hat hOw8;refine⟨.inr hHeld,?_⟩;simp only[puts];refine takeX (d:=some 3) 12 rfl rfl hHeld (fun w' hS'=>by clear hS';go_simp;(try rfl)) ?_;simp only[puts];refine doneX (by kernel_rfl) ?_ _
            obtain⟨g2,c2,hv8⟩:∃g2 c2,vw8=.slice (some ⟨g2,0,none⟩) (k+1+(m - k)) c2:=by
             rcases hownw8.2 with⟨_,hm0⟩ | ⟨g2,cap,cur,hv,_⟩
             · omega
             · exact⟨g2,cap,hv⟩
            subst hv8;have e1:k+1+(m - k)=m+1:=by omega
            rw[e1] at hownw8⊢;have HR8:Hid (NmRow w.heap.size w8 g2 (m+1) c2 (pSet (l.take (i+1)))):=qq ⟨by rw[HIN.out];simp;have:=HR.out.1;omega,by
              rw[HIN.out,List.map_append,List.map_append];exact row_base hownw8 hWz⟩
            have HB8:=qq hHeld;clear hownw8 hownw7 hBw7 hBw8 hHeld hR5 hP5 hB5 e1;go_wp2_with fail;go_roundw
            case rel=>exact⟨i+1,m+1,g2,c2,_,by omega,by omega,by first | rfl | exact True.intro,by go_num,qq rfl,HR8,HB8⟩
            case measure=>simp[intOf];omega
     · have HIN:Hid (pSet (l.take (i+1))=o.take k ++ [s] ++o.drop k):=qq (by rw[HO2.out];exact ins_here toN s o k HK.out (by rw[←HR.out.1];omega) (fun y hy=>by have:=(List.getElem?_eq_some_iff.1 hy).1;rw[←HR.out.1] at this;omega));have hk1:¬(k:Int)<(m:Int):=by omega
       go_wp2_with fail;clear cS;refine reg_startZ (fun w'=>Below w.heap.size w w') (fun w'=>Below W.heap.size W w') (by kernel_rfl) (bel_drew HB.out) (Below.refl _ _).drew (fun _=>false) ?_;rintro w1 hHeld hB1;have hkm2:(k:Int)≤(m:Int):=by omega
       have hkc:(k:Int)≤(c:Int):=by omega
       have hmc2:(m:Int)≤(c:Int):=by omega
       refine takeX (d:=some 41) 1 rfl rfl hHeld (fun w' hS'=>by clear hS';go_simp;(try rfl)) ?_;simp only[puts];refine takeX (d:=some 42) 2 rfl rfl hHeld (fun w' hS'=>by clear hS';go_simp;(try rfl)) ?_;simp only[puts];refine takeX (d:=some 43) 3 rfl rfl hHeld (fun w' hS'=>by clear hS';go_simp;(try rfl)) ?_;simp only[puts]
       refine takeX (d:=some 45) 5 rfl rfl hHeld (fun w' hS'=>by clear hS';go_simp;(try rfl)) ?_;simp only[puts];refine takeX (d:=some 48) 8 rfl rfl hHeld (fun w' hS'=>by clear hS';go_simp;(try rfl)) ?_;simp only[puts];refine takeX (d:=some 49) 9 rfl rfl hHeld (fun w' hS'=>by clear hS';go_simp;(try rfl)) ?_;simp only[puts]
       refine takeX (d:=some 50) 10 rfl rfl hHeld (fun w' hS'=>by clear hS';go_simp;(try rfl)) ?_;simp only[puts];obtain⟨ad,hAD,hCD⟩:=HR.out.drop_cells hk;rw[hAD];have hTC:=HR.out.take_cells k;have HCD:=qq hCD;have HTC:=qq hTC;have hol:m=o.length:=HR.out.1;have htl:((o.take k).map encStr).length=k*1:=by simp;omega
       have hdl:((o.drop k).map encStr).length=(m - k)*1:=by simp;omega
       have HTL:=qq htl;have HDL:=qq hdl;clear hAD hCD hTC htl hdl hol;have hB1z:=hB1.size;refine two_X 0 6 (by kernel_rfl) ?_ ?_
       · refine new_O (d:=some 40) 0 (.slice (some ⟨w1.heap.size,0,none⟩) 0 0) #[] 9 rfl rfl (by go_simp) (bel_alloc hHeld _) (fun hHeld=> ?_);simp only[puts];have hBu:Below W.heap.size W (w1.alloc (.cells #[] 9)):=hB1.alloc hB1.size _;have hR0:=own_emptyB w1 W.heap.size 9 1 hB1.size;refine two_X 4 6 (by kernel_rfl) ?_ ?_
         · refine app_O (d:=some 44) 4 rfl rfl rfl (.tmp 40) (.tmp 43) 49 rfl W.heap.size 9 i0 (.string ⟨#[]⟩) 1 16 Tryz.underlying49 ei ez es eb rfl (by decide) (.slice (some ⟨w1.heap.size,0,none⟩) 0 0) 0 [] (by rfl) hR0 ⟨g,0,none⟩ k c ((o.take k).map encStr) (by rfl) HTL.out (HTC.out _ hBu) (enc_one _) (by unfold maxLen;omega) (by omega) (by have h9:=hBu.size;exact h9) ?_
           intro vw4 w4 hownw4 hgrow hat;have hOw4:=fun q hq=>(hR0.lt q hq).1
           have hBw4:Below W.heap.size W w4:=hBu.grown hgrow hBu.size (fun q hq=>hOw4 q hq);replace hHeld:Below w.heap.size w w4:=below_then HB.out hBw4;clear hgrow hat hOw4;refine⟨.inr hHeld,?_⟩;simp only[puts];refine new_X (d:=some 46) 6 (.slice (some ⟨w4.heap.size,0,none⟩) 1 1) #[encStr s] 9 rfl rfl (by go_simp) (bel_alloc hHeld _) (fun hHeld _=> ?_);simp only[puts]
           have hba:Below w4.heap.size w4 (w4.alloc (.cells #[encStr s] 9)):=(Below.refl _ _).alloc (Nat.le_refl _) _;have hB5:=below_then hBw4 hba;have hP5:=Blk.fresh w4 #[encStr s] 9 _ rfl;have hR5:(w4.alloc (.cells #[encStr s] 9)).ownsRow W.heap.size 9 1 vw4 k ((o.take k).map encStr):=row_be (by simpa using hownw4) hba;clear hR0 hBu hownw4 hba
           refine app_X (d:=some 47) 7 rfl rfl rfl (.tmp 44) (.tmp 46) 49 rfl W.heap.size 9 i0 (.string ⟨#[]⟩) 1 16 Tryz.underlying49 ei ez es eb rfl (by decide) vw4 k ((o.take k).map encStr) (by rfl) hR5 ⟨w4.heap.size,0,none⟩ 1 1 [encStr s] (by rfl) rfl (lit_cells hP5) (by intro u hu;obtain rfl:=List.mem_singleton.1 hu;rfl) (by unfold maxLen;omega) (by omega) (by have h9:=hB5.size;exact h9) ?_
           intro vw7 w7 hownw7 hgrow hat;have hOw7:=fun q hq=>(hR5.lt q hq).1
           have hBw7:Below W.heap.size W w7:=hB5.grown hgrow hB5.size (fun q hq=>hOw7 q hq);replace hHeld:Below w.heap.size w w7:=below_then HB.out hBw7;clear hgrow hat hOw7;refine⟨.inr hHeld,?_⟩;simp only[puts]
           refine app_X (d:=some 51) 11 rfl rfl rfl (.tmp 47) (.tmp 50) 49 rfl W.heap.size 9 i0 (.string ⟨#[]⟩) 1 16 Tryz.underlying49 ei ez es eb rfl (by decide) vw7 (k+1) ((o.take k).map encStr ++ [encStr s]) (by rfl) hownw7 ad (m - k) (c - k) ((o.drop k).map encStr) (by rfl) HDL.out (HCD.out w7 hBw7) (enc_one _) (by unfold maxLen;omega) (by omega) (by have h9:=hBw7.size;exact h9) ?_
           intro vw8 w8 hownw8 hgrow hat;have hOw8:=fun q hq=>(hownw7.lt q hq).1
           have hBw8:Below W.heap.size W w8:=hBw7.grown hgrow hBw7.size (fun q hq=>hOw8 q hq);replace hHeld:Below w.heap.size w w8:=below_then HB.out hBw8;clear hgrow hat hOw8;refine⟨.inr hHeld,?_⟩;simp only[puts];refine takeX (d:=some 3) 12 rfl rfl hHeld (fun w' hS'=>by clear hS';go_simp;(try rfl)) ?_;simp only[puts];refine doneX (by kernel_rfl) ?_ _
           obtain⟨g2,c2,hv8⟩:∃g2 c2,vw8=.slice (some ⟨g2,0,none⟩) (k+1+(m - k)) c2:=by
            rcases hownw8.2 with⟨_,hm0⟩ | ⟨g2,cap,cur,hv,_⟩
            · omega
            · exact⟨g2,cap,hv⟩
           subst hv8;have e1:k+1+(m - k)=m+1:=by omega
           rw[e1] at hownw8⊢;have HR8:Hid (NmRow w.heap.size w8 g2 (m+1) c2 (pSet (l.take (i+1)))):=qq ⟨by rw[HIN.out];simp;have:=HR.out.1;omega,by
             rw[HIN.out,List.map_append,List.map_append];exact row_base hownw8 hWz⟩
           have HB8:=qq hHeld;clear hownw8 hownw7 hBw7 hBw8 hHeld hR5 hP5 hB5 e1;go_wp2_with fail;go_roundw
           case rel=>exact⟨i+1,m+1,g2,c2,_,by omega,by omega,by first | rfl | exact True.intro,by go_num,qq rfl,HR8,HB8⟩
           case measure=>simp[intOf];omega
         · refine new_O (d:=some 46) 6 (.slice (some ⟨(w1.alloc (.cells #[] 9)).heap.size,0,none⟩) 1 1) #[encStr s] 9 rfl rfl (by go_simp) (bel_alloc hHeld _) (fun hHeld=> ?_);simp only[puts];have hba:Below (w1.alloc (.cells #[] 9)).heap.size (w1.alloc (.cells #[] 9)) ((w1.alloc (.cells #[] 9)).alloc (.cells #[encStr s] 9)):=(Below.refl _ _).alloc (Nat.le_refl _) _;have hR1:=row_be hR0 hba
           have hB2:=below_then hBu hba;have hP2:=Blk.fresh (w1.alloc (.cells #[] 9)) #[encStr s] 9 _ rfl
           refine app_X (d:=some 44) 4 rfl rfl rfl (.tmp 40) (.tmp 43) 49 rfl W.heap.size 9 i0 (.string ⟨#[]⟩) 1 16 Tryz.underlying49 ei ez es eb rfl (by decide) (.slice (some ⟨w1.heap.size,0,none⟩) 0 0) 0 [] (by rfl) hR1 ⟨g,0,none⟩ k c ((o.take k).map encStr) (by rfl) HTL.out (HTC.out _ hB2) (enc_one _) (by unfold maxLen;omega) (by omega) (by have h9:=hB2.size;exact h9) ?_
           intro vw4 w4 hownw4 hgrow hat;have hOw4:=fun q hq=>(hR1.lt q hq).1
           have hP5:=Blk.same hP2 hgrow.size (hgrow.block _ (by simp;try omega) (fun e=>by injection e with e;simp at e));have hBw4:Below W.heap.size W w4:=hB2.grown hgrow hB2.size (fun q hq=>hOw4 q hq);replace hHeld:Below w.heap.size w w4:=below_then HB.out hBw4;clear hgrow hat hOw4;refine⟨.inr hHeld,?_⟩;simp only[puts];have hB5:=hBw4
           have hR5:w4.ownsRow W.heap.size 9 1 vw4 k ((o.take k).map encStr):=by simpa using hownw4
           clear hR0 hBu hownw4 hba hR1 hB2 hP2
           refine app_X (d:=some 47) 7 rfl rfl rfl (.tmp 44) (.tmp 46) 49 rfl W.heap.size 9 i0 (.string ⟨#[]⟩) 1 16 Tryz.underlying49 ei ez es eb rfl (by decide) vw4 k ((o.take k).map encStr) (by rfl) hR5 ⟨(w1.alloc (.cells #[] 9)).heap.size,0,none⟩ 1 1 [encStr s] (by rfl) rfl (lit_cells hP5) (by intro u hu;obtain rfl:=List.mem_singleton.1 hu;rfl) (by unfold maxLen;omega) (by omega) (by have h9:=hB5.size;exact h9) ?_
           intro vw7 w7 hownw7 hgrow hat;have hOw7:=fun q hq=>(hR5.lt q hq).1
           have hBw7:Below W.heap.size W w7:=hB5.grown hgrow hB5.size (fun q hq=>hOw7 q hq);replace hHeld:Below w.heap.size w w7:=below_then HB.out hBw7;clear hgrow hat hOw7;refine⟨.inr hHeld,?_⟩;simp only[puts]
           refine app_X (d:=some 51) 11 rfl rfl rfl (.tmp 47) (.tmp 50) 49 rfl W.heap.size 9 i0 (.string ⟨#[]⟩) 1 16 Tryz.underlying49 ei ez es eb rfl (by decide) vw7 (k+1) ((o.take k).map encStr ++ [encStr s]) (by rfl) hownw7 ad (m - k) (c - k) ((o.drop k).map encStr) (by rfl) HDL.out (HCD.out w7 hBw7) (enc_one _) (by unfold maxLen;omega) (by omega) (by have h9:=hBw7.size;exact h9) ?_
           intro vw8 w8 hownw8 hgrow hat;have hOw8:=fun q hq=>(hownw7.lt q hq).1
           have hBw8:Below W.heap.size W w8:=hBw7.grown hgrow hBw7.size (fun q hq=>hOw8 q hq);replace hHeld:Below w.heap.size w w8:=below_then HB.out hBw8;clear hgrow hat hOw8;refine⟨.inr hHeld,?_⟩;simp only[puts];refine takeX (d:=some 3) 12 rfl rfl hHeld (fun w' hS'=>by clear hS';go_simp;(try rfl)) ?_;simp only[puts];refine doneX (by kernel_rfl) ?_ _
           obtain⟨g2,c2,hv8⟩:∃g2 c2,vw8=.slice (some ⟨g2,0,none⟩) (k+1+(m - k)) c2:=by
            rcases hownw8.2 with⟨_,hm0⟩ | ⟨g2,cap,cur,hv,_⟩
            · omega
            · exact⟨g2,cap,hv⟩
           subst hv8;have e1:k+1+(m - k)=m+1:=by omega
           rw[e1] at hownw8⊢;have HR8:Hid (NmRow w.heap.size w8 g2 (m+1) c2 (pSet (l.take (i+1)))):=qq ⟨by rw[HIN.out];simp;have:=HR.out.1;omega,by
             rw[HIN.out,List.map_append,List.map_append];exact row_base hownw8 hWz⟩
           have HB8:=qq hHeld;clear hownw8 hownw7 hBw7 hBw8 hHeld hR5 hP5 hB5 e1;go_wp2_with fail;go_roundw
           case rel=>exact⟨i+1,m+1,g2,c2,_,by omega,by omega,by first | rfl | exact True.intro,by go_num,qq rfl,HR8,HB8⟩
           case measure=>simp[intOf];omega
       · refine new_O (d:=some 46) 6 (.slice (some ⟨w1.heap.size,0,none⟩) 1 1) #[encStr s] 9 rfl rfl (by go_simp) (bel_alloc hHeld _) (fun hHeld=> ?_);simp only[puts];have hba:Below w1.heap.size w1 (w1.alloc (.cells #[encStr s] 9)):=(Below.refl _ _).alloc (Nat.le_refl _) _;have hB2:=below_then hB1 hba;have hP2:=Blk.fresh w1 #[encStr s] 9 _ rfl
         refine new_X (d:=some 40) 0 (.slice (some ⟨(w1.alloc (.cells #[encStr s] 9)).heap.size,0,none⟩) 0 0) #[] 9 rfl rfl (by go_simp) (bel_alloc hHeld _) (fun hHeld _=> ?_);simp only[puts];have hbb:Below (w1.alloc (.cells #[encStr s] 9)).heap.size (w1.alloc (.cells #[encStr s] 9)) ((w1.alloc (.cells #[encStr s] 9)).alloc (.cells #[] 9)):=(Below.refl _ _).alloc (Nat.le_refl _) _
         have hR1:=own_emptyB (w1.alloc (.cells #[encStr s] 9)) W.heap.size 9 1 hB2.size;have hB3:=below_then hB2 hbb;have hP3:=hP2.below hbb
         refine app_X (d:=some 44) 4 rfl rfl rfl (.tmp 40) (.tmp 43) 49 rfl W.heap.size 9 i0 (.string ⟨#[]⟩) 1 16 Tryz.underlying49 ei ez es eb rfl (by decide) (.slice (some ⟨(w1.alloc (.cells #[encStr s] 9)).heap.size,0,none⟩) 0 0) 0 [] (by rfl) hR1 ⟨g,0,none⟩ k c ((o.take k).map encStr) (by rfl) HTL.out (HTC.out _ hB3) (enc_one _) (by unfold maxLen;omega) (by omega) (by have h9:=hB3.size;exact h9) ?_
         intro vw4 w4 hownw4 hgrow hat;have hOw4:=fun q hq=>(hR1.lt q hq).1
         have hP5:=Blk.same hP3 hgrow.size (hgrow.block _ (by simp;try omega) (fun e=>by injection e with e;simp at e));have hBw4:Below W.heap.size W w4:=hB3.grown hgrow hB3.size (fun q hq=>hOw4 q hq);replace hHeld:Below w.heap.size w w4:=below_then HB.out hBw4;clear hgrow hat hOw4;refine⟨.inr hHeld,?_⟩;simp only[puts];have hB5:=hBw4
         have hR5:w4.ownsRow W.heap.size 9 1 vw4 k ((o.take k).map encStr):=by simpa using hownw4
         clear hownw4 hba hR1 hB2 hP2 hB3 hP3 hbb
         refine app_X (d:=some 47) 7 rfl rfl rfl (.tmp 44) (.tmp 46) 49 rfl W.heap.size 9 i0 (.string ⟨#[]⟩) 1 16 Tryz.underlying49 ei ez es eb rfl (by decide) vw4 k ((o.take k).map encStr) (by rfl) hR5 ⟨w1.heap.size,0,none⟩ 1 1 [encStr s] (by rfl) rfl (lit_cells hP5) (by intro u hu;obtain rfl:=List.mem_singleton.1 hu;rfl) (by unfold maxLen;omega) (by omega) (by have h9:=hB5.size;exact h9) ?_
         intro vw7 w7 hownw7 hgrow hat;have hOw7:=fun q hq=>(hR5.lt q hq).1
         have hBw7:Below W.heap.size W w7:=hB5.grown hgrow hB5.size (fun q hq=>hOw7 q hq);replace hHeld:Below w.heap.size w w7:=below_then HB.out hBw7;clear hgrow hat hOw7;refine⟨.inr hHeld,?_⟩;simp only[puts]
         refine app_X (d:=some 51) 11 rfl rfl rfl (.tmp 47) (.tmp 50) 49 rfl W.heap.size 9 i0 (.string ⟨#[]⟩) 1 16 Tryz.underlying49 ei ez es eb rfl (by decide) vw7 (k+1) ((o.take k).map encStr ++ [encStr s]) (by rfl) hownw7 ad (m - k) (c - k) ((o.drop k).map encStr) (by rfl) HDL.out (HCD.out w7 hBw7) (enc_one _) (by unfold maxLen;omega) (by omega) (by have h9:=hBw7.size;exact h9) ?_
         intro vw8 w8 hownw8 hgrow hat;have hOw8:=fun q hq=>(hownw7.lt q hq).1
         have hBw8:Below W.heap.size W w8:=hBw7.grown hgrow hBw7.size (fun q hq=>hOw8 q hq);replace hHeld:Below w.heap.size w w8:=below_then HB.out hBw8;clear hgrow hat hOw8;refine⟨.inr hHeld,?_⟩;simp only[puts];refine takeX (d:=some 3) 12 rfl rfl hHeld (fun w' hS'=>by clear hS';go_simp;(try rfl)) ?_;simp only[puts];refine doneX (by kernel_rfl) ?_ _
         obtain⟨g2,c2,hv8⟩:∃g2 c2,vw8=.slice (some ⟨g2,0,none⟩) (k+1+(m - k)) c2:=by
          rcases hownw8.2 with⟨_,hm0⟩ | ⟨g2,cap,cur,hv,_⟩
          · omega
          · exact⟨g2,cap,hv⟩
         subst hv8;have e1:k+1+(m - k)=m+1:=by omega
         rw[e1] at hownw8⊢;have HR8:Hid (NmRow w.heap.size w8 g2 (m+1) c2 (pSet (l.take (i+1)))):=qq ⟨by rw[HIN.out];simp;have:=HR.out.1;omega,by
           rw[HIN.out,List.map_append,List.map_append];exact row_base hownw8 hWz⟩
         have HB8:=qq hHeld;clear hownw8 hownw7 hBw7 hBw8 hHeld hR5 hP5 hB5 e1;go_wp2_with fail;go_roundw
         case rel=>exact⟨i+1,m+1,g2,c2,_,by omega,by omega,by first | rfl | exact True.intro,by go_num,qq rfl,HR8,HB8⟩
         case measure=>simp[intOf];omega
  · obtain rfl:n=i:=by omega
    have HF:Hid (R (.returned (.slice (some ⟨g,0,none⟩) m c)) W):=qq (HRES.out _ _ (by
      have e:pSet l=o:=by rw[HO.out,HN.out,List.take_length]
      rw[e];have:=HR.out.2;rw[HR.out.1] at this⊢;exact this) HB.out)
    go_wp2_with fail
    (try go_ret)
    exact HF.out
end Go.Proofs.YtbepkpjcjpmpmaaGreatDoor
