/- The walks of liaisonref27.Text, trace.Count, trace.Of. -/
import Derived.Test.YthjdaehiebcoaaaGreatDoorRows
import Derived.WalkKit
import Derived.WalkSpells
import Derived.WalkLawsBesides
import Derived.BigQuiet
import Derived.Deep.QuietTactic
import Derived.StillTailTactics
import Derived.Handy
import Derived.Lib.Hide
import Derived.Test.YthjdaehiebcoaaaGreatDoorTextA
import Derived.Test.YthjdaehiebcoaaaGreatDoorRangeQ
import Derived.OwnWalkIn
import Derived.TacticsInMore
import Derived.LoopNIn
import Derived.LoopIn
import Derived.Shelf.RegionOpen
set_option linter.unusedSimpArgs false
set_option linter.unusedVariables false
namespace Go.Proofs.YthjdaehiebcoaaaGreatDoor
open Go.RowKit Go.Shelf
attribute [local go_sem] Oper.semAt_some

set_option maxRecDepth 100000 in
set_option maxHeartbeats 4000000 in
theorem rtext27_of (es : List Ev) (hl : es.length ≤ 40) (hz : ∀ e ∈ es, evSizes e) (v : Value) (w : World) (hv : RowV w v es) :
    Calls Tryz.prog 13 #[v] w (Makes (.tuple #[.string (bs (if tAllN es = 0 then tAll es else [])), .int .i64 (tAllN es)]) w) := by
  have HV := Lib.hid hv
  obtain ⟨b0, o0, A0, cap0, rfl, hA0, _⟩ := hv
  obtain ⟨n, hn⟩ : ∃ n : Nat, n = es.length := ⟨_, rfl⟩
  rw [← hn] at hl HV ⊢
  have HN := Lib.hid hn; have HZ := Lib.hid hz
  obtain ⟨X, hX⟩ : ∃ X, X = (if tAllN es = 0 then tAll es else []) := ⟨_, rfl⟩
  rw [← hX]
  have HXX := Lib.hid hX
  clear hn hz hA0 hX
  go_enter Tryz.func13, Tryz.ntmps13
  go_wp2_with fail
  go_loopw [4, 11] (fun s i wr => ∃ j : Nat, j ≤ n ∧ s = .string (bs (tAll (es.take j))) ∧ i = .int .i64 j ∧ Below w.heap.size w wr ∧ Hid (∀ k (hk : k < es.length), k < j → tLineN es[k] = 0)) (fun _ i _ => n - (intOf i).toNat)
  case atStart => exact ⟨0, Nat.zero_le _, rfl, rfl, Below.refl _ _, Lib.hid (fun k _ hk => absurd hk (by omega))⟩
  case round =>
    obtain ⟨j, hj, rfl, rfl, hBl, HZR⟩ := hrel
    have HBL := Lib.hid hBl
    clear hBl
    by_cases hjn : j < n
    · have hje : j < es.length := by rw [← HN.out]; exact hjn
      have hj0 : (0 : Int) ≤ (j : Int) := by omega
      have hj1 : (j : Int) < (n : Int) := by omega
      have hrow := HV.out.below HBL.out
      rw [HN.out] at hrow
      obtain ⟨b1, o1, A1, cap1, hv1, hA1, hc1⟩ := hrow
      injection hv1 with e1 e2 e3
      subst e1 e3
      obtain ⟨rfl, _⟩ := hA1 (by omega)
      obtain ⟨c0, c1, c2, c3, c4⟩ := hc1 j hje
      have hsz := HZ.out es[j] (List.getElem_mem _)
      have hlen : (tAll (es.take j)).length ≤ 40 * 1001 := by
        have := all_len (es.take j) (mem_take_lt fun k hk _ => HZ.out _ (List.getElem_mem _)) (mem_take_lt fun k hk hkj => HZR.out k hk hkj)
        rw [List.length_take] at this
        have : min j es.length * 1001 ≤ 40 * 1001 := Nat.mul_le_mul_right _ (by rw [← HN.out]; omega)
        omega
      have hnum := line_num es[j]
      have hLN := fun W => rline_of es[j] hsz W
      have htk := all_take hje
      have hat := fun hne => allN_at es j hje (fun k hk => HZR.out k (by omega) hk) hne
      have hll := fun h0 => line_len hsz h0
      have hzr2 : tLineN es[j] = 0 → ∀ k (hk : k < es.length), k < j + 1 → tLineN es[k] = 0 := fun h0 k hk hkj => by
        rcases Nat.lt_or_ge k j with h1 | h1
        · exact HZR.out k hk h1
        · obtain rfl : k = j := by omega
          exact h0
      obtain ⟨q, hq⟩ : ∃ q, q = tLineN es[j] := ⟨_, rfl⟩
      obtain ⟨L, hL⟩ : ∃ L, L = tLineOf es[j] := ⟨_, rfl⟩
      obtain ⟨A, hA⟩ : ∃ A, A = tAll (es.take j) := ⟨_, rfl⟩
      unfold tLine at hLN
      rw [← hq, ← hL] at hLN
      rw [← hq] at hnum hat hzr2
      rw [← hL, ← hA] at htk
      rw [← hA] at hlen
      rw [← hq, ← hL] at hll
      rw [← hA]
      obtain ⟨e, he⟩ : ∃ e, e = es[j] := ⟨_, rfl⟩
      rw [← he] at c0 c1 c2 c3 c4 hLN
      obtain ⟨step, what, node, first, second⟩ := e
      dsimp only [evV, evC] at c0 c1 c2 c3 c4 hLN
      clear hq hL he hsz hA1 hc1 hA
      have HB2 := Lib.hid (HBL.out.alloc HBL.out.size (.cells #[.int .i64 step, .string (bs what), .int .i64 node, .string (bs first), .string (bs second)] 29))
      by_cases h0 : q = 0
      · subst h0
        rw [if_pos rfl] at hLN
        have HL := Lib.hid hLN; have HTK := Lib.hid htk; have HZ2 := Lib.hid (hzr2 rfl)
        have hL1 := hll rfl
        have happ : bs L ++ (⟨#[10]⟩ : ByteArray) = bs (L ++ [10]) := by apply data_inj; simp [bs]
        have happ2 : bs A ++ bs (L ++ [10]) = bs (A ++ (L ++ [10])) := by apply data_inj; simp [bs]
        have hlim : ¬ 9223372036854775807 < (bs L).size + 1 := by rw [bs_size]; omega
        have hlim2 : ¬ 9223372036854775807 < (bs A).size + (bs (L ++ [10])).size := by rw [bs_size, bs_size, List.length_append]; simp; omega
        have HAP := Lib.hid (And.intro (And.intro happ happ2) (And.intro hlim hlim2))
        clear hLN htk hzr2 hat hll hnum hL1 hlen happ happ2 hlim hlim2
        go_wp2_with fail
        refine (HL.out _).mono ?_
        rintro e w1 ⟨rfl, hb1⟩
        have HB3 := Lib.hid (below_then HB2.out hb1)
        obtain ⟨⟨happ, happ2⟩, hlim, hlim2⟩ := HAP.out
        go_wp2_with fail
        go_roundw
        case rel => exact ⟨j + 1, by omega, by rw [HTK.out], by go_num, HB3.out, HZ2⟩
        case measure => (simp [intOf] <;> omega)
      · rw [if_neg h0] at hLN
        have HL := Lib.hid hLN
        have HQ := Lib.hid (hat h0)
        have hq0 : (q != 0) = true := by simpa using h0
        have HQ0 := Lib.hid h0
        clear hLN htk hzr2 hat hll hnum hlen h0
        go_wp2_with fail
        refine (HL.out _).mono ?_
        rintro e w1 ⟨rfl, hb1⟩
        have HB3 := Lib.hid (below_then HB2.out hb1)
        go_wp2_with fail
        go_ret2
        rw [HXX.out, HQ.out, if_neg HQ0.out]
        exact ⟨rfl, HB3.out⟩
    · obtain rfl : j = n := by omega
      have hall : tAllN es = 0 := allN_zero es (fun k hk => HZR.out k hk (by rw [HN.out]; exact hk))
      have htk : tAll (es.take j) = tAll es := by rw [List.take_of_length_le (by rw [HN.out]; exact Nat.le_refl _)]
      have HAL := Lib.hid hall
      rw [htk]
      clear hall htk
      go_wp2_with fail
      go_ret2
      rw [HXX.out, HAL.out, if_pos rfl]
      exact ⟨rfl, HBL.out⟩
/-- how many events of a word there are -/
def tCount (l : List Ev) (what : Str) : Nat := l.countP fun e => e.what == what
theorem count_take {l : List Ev} {j : Nat} (what : Str) (h : j < l.length) : tCount (l.take (j + 1)) what = tCount (l.take j) what + if l[j].what = what then 1 else 0 := by
  unfold tCount
  rw [List.take_succ_eq_append_getElem h, List.countP_append]
  simp [List.countP_cons, List.countP_nil]
set_option maxRecDepth 100000 in
set_option maxHeartbeats 4000000 in
theorem count_of (es : List Ev) (hl : es.length ≤ 40) (word : Str) (v : Value) (w : World) (hv : RowV w v es) : Calls Tryz.prog 14 #[v, .string (bs word)] w (Makes (.int .i64 (tCount es word : Int)) w) := by
  have HV := Lib.hid hv
  obtain ⟨b0, o0, A0, cap0, rfl, hA0, _⟩ := hv
  obtain ⟨n, hn⟩ : ∃ n : Nat, n = es.length := ⟨_, rfl⟩
  rw [← hn] at hl HV ⊢
  have HN := Lib.hid hn
  clear hn hA0
  go_enter Tryz.func14, Tryz.ntmps14
  go_wp2_with fail
  go_loopw [5, 10] (fun c i wr => ∃ j k : Nat, j ≤ n ∧ c = .int .i64 (k : Int) ∧ i = .int .i64 j ∧ Below w.heap.size w wr ∧ k ≤ j ∧ Hid (k = tCount (es.take j) word)) (fun _ i _ => n - (intOf i).toNat)
  case atStart => exact ⟨0, 0, Nat.zero_le _, rfl, rfl, Below.refl _ _, Nat.le_refl _, Lib.hid rfl⟩
  case round =>
    obtain ⟨j, k, hj, rfl, rfl, hBl, hkj, HK⟩ := hrel
    have HBL := Lib.hid hBl
    clear hBl
    by_cases hjn : j < n
    · have hje : j < es.length := by rw [← HN.out]; exact hjn
      have hj0 : (0 : Int) ≤ (j : Int) := by omega
      have hj1 : (j : Int) < (n : Int) := by omega
      have hrow := HV.out.below HBL.out
      rw [HN.out] at hrow
      obtain ⟨b1, o1, A1, cap1, hv1, hA1, hc1⟩ := hrow
      injection hv1 with e1 e2 e3
      subst e1 e3
      obtain ⟨rfl, _⟩ := hA1 (by omega)
      obtain ⟨c0, c1, c2, c3, c4⟩ := hc1 j hje
      have hct := count_take word hje
      obtain ⟨e, he⟩ : ∃ e, e = es[j] := ⟨_, rfl⟩
      rw [← he] at c0 c1 c2 c3 c4 hct
      obtain ⟨step, what, node, first, second⟩ := e
      dsimp only at c0 c1 c2 c3 c4 hct
      clear he hA1 hc1
      have HB2 := Lib.hid (HBL.out.alloc HBL.out.size (.cells #[.int .i64 step, .string (bs what), .int .i64 node, .string (bs first), .string (bs second)] 24))
      by_cases hw : what = word
      · rw [if_pos hw, ← HK.out] at hct
        have HCT := Lib.hid hct
        have heq : ((bs what).toList == (bs word).toList) = true := by rw [hw]; simp
        clear hct hw
        go_wp2_with fail
        go_roundw
        case rel => exact ⟨j + 1, k + 1, by omega, by go_num, by go_num, HB2.out, by omega, Lib.hid HCT.out.symm⟩
        case measure => (simp [intOf] <;> omega)
      · rw [if_neg hw, ← HK.out] at hct
        have HCT := Lib.hid hct
        have heq : ((bs what).toList == (bs word).toList) = false := by rw [bs_toList, bs_toList]; simpa using hw
        clear hct hw
        go_wp2_with fail
        go_roundw
        case rel => exact ⟨j + 1, k, by omega, rfl, by go_num, HB2.out, by omega, Lib.hid HCT.out.symm⟩
        case measure => (simp [intOf] <;> omega)
    · obtain rfl : j = n := by omega
      have hk := HK.out
      rw [List.take_of_length_le (by rw [HN.out]; exact Nat.le_refl _)] at hk
      have HK2 := Lib.hid hk
      clear hk
      go_wp2_with fail
      go_ret
      exact ⟨by rw [HK2.out]; rfl, HBL.out⟩
theorem ofSeq_of (A : Option Addr) (n cap : Nat) (node : Int) (w : World) : Calls Tryz.prog 15 #[.slice A n cap, .int .i64 node] w (fun e w' => e = .returned (.func (.func 42) #[] #[.pointer (some ⟨w.heap.size, 0, none⟩), .pointer (some ⟨w.heap.size + 1, 0, none⟩)]) ∧ w' = (w.alloc (.cells #[.slice A n cap] 33)).alloc (.cells #[.int .i64 node] 3)) := by
  have hmf : ∀ (fn : Fn) (first cap : Array Value) (w : World), (Instr.makeFunc fn first cap).run Tryz.prog w = .ok (.func fn first cap) w := fun _ _ _ _ => rfl
  go_enter Tryz.func15, Tryz.ntmps15
  go_wp2_with fail
  go_ret
  exact ⟨rfl, rfl⟩
/-- the events of a node -/
def tOf (l : List Ev) (node : Int) : List Ev := l.filter fun e => e.node == node
theorem of_take {l : List Ev} {j : Nat} (node : Int) (h : j < l.length) : tOf (l.take (j + 1)) node = tOf (l.take j) node ++ if l[j].node = node then [l[j]] else [] := by
  unfold tOf
  rw [List.take_succ_eq_append_getElem h, List.filter_append]
  by_cases hn : l[j].node = node <;> simp [hn]
theorem of_prefix {l : List Ev} {j : Nat} (node : Int) : ∃ rest, tOf (l.take j) node ++ rest = tOf l node := by
  unfold tOf
  refine ⟨(l.drop j).filter fun e => e.node == node, ?_⟩
  rw [← List.filter_append, List.take_append_drop]
/-- what the iterator reads -/
structure OfReads (b1 b2 b off : Nat) (v : Value) (node : Int) (es : List Ev) (W : World) : Prop where
  h1 : Blk W b1 #[v]
  h2 : Blk W b2 #[.int .i64 node]
  lt : 0 < es.length → b < W.heap.size
  row : ∀ j (h : j < es.length), Ev5 W b (off + j * 5) es[j]
theorem OfReads.kept {b1 b2 b off : Nat} {v : Value} {node : Int} {es : List Ev} {W W' : World} (h : OfReads b1 b2 b off v node es W) (hz : W.heap.size ≤ W'.heap.size) (k1 : W'.heap[b1]? = W.heap[b1]?) (k2 : W'.heap[b2]? = W.heap[b2]?) (k : 0 < es.length → W'.heap[b]? = W.heap[b]?) : OfReads b1 b2 b off v node es W' := by
  refine ⟨h.h1.heap hz k1, h.h2.heap hz k2, fun hp => Nat.lt_of_lt_of_le (h.lt hp) hz, fun j hj => ?_⟩
  have kk := k (by omega)
  obtain ⟨c0, c1, c2, c3, c4⟩ := h.row j hj
  have c : ∀ i u, W.cell? ⟨b, i, none⟩ = some u → W'.cell? ⟨b, i, none⟩ = some u := fun i u hu => (World.cell?_of_block (w := W) (a := ⟨b, i, none⟩) kk).trans hu
  exact ⟨c _ _ c0, c _ _ c1, c _ _ c2, c _ _ c3, c _ _ c4⟩
theorem OfReads.below {b1 b2 b off : Nat} {v : Value} {node : Int} {es : List Ev} {W W' : World} (h : OfReads b1 b2 b off v node es W) (hb : Below W.heap.size W W') : OfReads b1 b2 b off v node es W' :=
  h.kept hb.size (hb.block _ h.h1.lt) (hb.block _ h.h2.lt) (fun hp => hb.block _ (h.lt hp))
def OfRel (J : List Ev → World → Prop) (b1 b2 b off : Nat) (v : Value) (node : Int) (es : List Ev) (j : Nat) (wr : World) : Prop := J (tOf (es.take j) node) wr ∧ OfReads b1 b2 b off v node es wr
set_option maxRecDepth 100000 in
set_option maxHeartbeats 4000000 in
theorem of_in (n : Nat) (hn : 1 ≤ n) (b1 b2 b off cap : Nat) (A : Option Addr) (node : Int) (es : List Ev) (hl : es.length ≤ 40) (hA : 0 < es.length → A = some ⟨b, off, none⟩) (l : Nat) (J : List Ev → World → Prop) (Kp : World → World → Prop)
    (hKp : ∀ X Y, Kp X Y → OfReads b1 b2 b off (.slice A es.length cap) node es X → OfReads b1 b2 b off (.slice A es.length cap) node es Y) (W : World) (hJ : ∀ pre X Y, J pre X → Below X.heap.size X Y → J pre Y) (hR : OfReads b1 b2 b off (.slice A es.length cap) node es W)
    (hY : ∀ pre (x : Ev) W1, J pre W1 → (∃ rest, (pre ++ [x]) ++ rest = tOf es node) → YieldAt Fence.wide (n - 1) Tryz.prog l #[evV x] W1 fun e W' => e = .returned (.bool true) ∧ J (pre ++ [x]) W' ∧ Kp W1 W')
    (h0 : J [] W) : CallsIn Fence.wide n Tryz.prog 42 #[.func (.yield l) #[] #[], .pointer (some ⟨b1, 0, none⟩), .pointer (some ⟨b2, 0, none⟩)] W fun e W' => (∃ v, e = .returned v) ∧ ∃ xs, xs = tOf es node ∧ J xs W' := by
  have HRD := Lib.hid hR
  have d1 : W.cell? ⟨b1, 0, none⟩ = some (.slice A es.length cap) := hR.h1.cell 0
  obtain ⟨m, hm⟩ : ∃ m : Nat, m = es.length := ⟨_, rfl⟩
  rw [← hm] at d1 hl
  have HM := Lib.hid hm; have HA := Lib.hid hA; have H0 := Lib.hid h0
  clear hR hA h0 hm
  refine callsIn_of_wp Tryz.func42 rfl trivial ?_ rfl
  simp only [Tryz.ntmps42, List.size_toArray, List.length_cons, List.length_nil, Nat.reduceAdd, Nat.reduceSub, Array.replicate_succ, Array.replicate_zero, List.push_toArray, List.append_toArray, List.nil_append, List.cons_append]
  gi_wp2
  clear d1
  gi_loopw [8] (fun i wr => ∃ j : Nat, j ≤ m ∧ i = .int .i64 j ∧ OfRel J b1 b2 b off (.slice A es.length cap) node es j wr) (fun i _ => m - (intOf i).toNat)
  case atStart => exact ⟨0, Nat.zero_le _, rfl, H0.out, HRD.out⟩
  case round =>
    obtain ⟨j, hj, rfl, hjj, hrd⟩ := hrel
    by_cases hjm : j < m
    · have hje : j < es.length := by rw [← HM.out]; exact hjm
      have hj0 : (0 : Int) ≤ (j : Int) := by omega
      have hj1 : (j : Int) < (m : Int) := by omega
      obtain rfl := HA.out (by omega)
      obtain ⟨c0, c1, c2, c3, c4⟩ := hrd.row j hje
      have hot := of_take node hje
      have hpf := of_prefix (l := es) (j := j + 1) node
      rw [hot] at hpf
      obtain ⟨e, he⟩ : ∃ e, e = es[j] := ⟨_, rfl⟩
      rw [← he] at c0 c1 c2 c3 c4 hot hpf
      have hb2 : Below wr.heap.size wr (wr.alloc (.cells (evC e) 24)) := (Below.refl _ _).alloc (Nat.le_refl _) _
      have hj2 := hJ _ _ _ hjj hb2
      have hrd2 := hrd.below hb2
      have d2 : (wr.alloc (.cells (evC e) 24)).cell? ⟨b2, 0, none⟩ = some (.int .i64 node) := hrd2.h2.cell 0
      by_cases hnd : e.node = node
      · rw [if_pos hnd] at hot hpf
        obtain ⟨fn, tmps, assign, body, hy, hRo⟩ := hY _ e _ hj2 hpf
        obtain ⟨step, what, nd, first, second⟩ := e
        dsimp only [evV, evC] at c0 c1 c2 c3 c4 hot hpf d2 hnd hy hRo
        have HRO := Lib.hid hRo; have HOT := Lib.hid hot; have HRD2 := Lib.hid hrd2
        have hnb : (nd == node) = true := by simpa using hnd
        clear hRo hot hpf he hnd hrd hrd2 hjj hj2 hb2
        gi_wp2_with fail
        refine HRO.out.mono ?_
        rintro e2 W3 ⟨rfl, hJ3, hk3⟩
        have HRD3 := Lib.hid (hKp _ _ hk3 HRD2.out)
        gi_wp2
        go_roundw
        case rel => exact ⟨j + 1, by omega, by go_num, by unfold OfRel; rw [HOT.out]; exact ⟨hJ3, HRD3.out⟩⟩
        case measure => (simp [intOf] <;> omega)
      · rw [if_neg hnd, List.append_nil] at hot
        obtain ⟨step, what, nd, first, second⟩ := e
        dsimp only [evV, evC] at c0 c1 c2 c3 c4 hot d2 hnd
        have HOT := Lib.hid hot; have HRD2 := Lib.hid hrd2; have HJ2 := Lib.hid hj2
        have hnb : (nd == node) = false := by simpa using hnd
        clear hot hpf he hnd hrd hrd2 hjj hj2 hb2
        gi_wp2_with fail
        refine ⟨fun f h => (by cases h), ?_⟩
        gi_wp2_with fail
        go_roundw
        case rel => exact ⟨j + 1, by omega, by go_num, by unfold OfRel; rw [HOT.out]; exact ⟨HJ2.out, HRD2.out⟩⟩
        case measure => (simp [intOf] <;> omega)
    · obtain rfl : j = m := by omega
      have hend : tOf (es.take j) node = tOf es node := by rw [List.take_of_length_le (by rw [HM.out]; exact Nat.le_refl _)]
      have HEND := Lib.hid hend
      clear hend
      gi_wp2
      go_end0
      exact ⟨⟨_, rfl⟩, _, HEND.out, hjj⟩
end Go.Proofs.YthjdaehiebcoaaaGreatDoor
