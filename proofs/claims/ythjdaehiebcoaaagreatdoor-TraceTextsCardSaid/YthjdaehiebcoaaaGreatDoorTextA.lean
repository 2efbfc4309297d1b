/- The walk of trace.Text: all lines in a builder. -/
import Derived.Test.YthjdaehiebcoaaaGreatDoorRows
import Derived.WalkKit
import Derived.WalkSpells
import Derived.WalkLawsBesides
import Derived.BigQuiet
import Derived.Deep.QuietTactic
import Derived.StillTailTactics
import Derived.Handy
import Derived.Lib.Hide
import Derived.Test.YthjdaehiebcoaaaGreatDoorReadE
import Derived.Test.YthjdaehiebcoaaaGreatDoorReadA
import Derived.Shelf.Strings.Builder1
set_option linter.unusedSimpArgs false
set_option linter.unusedVariables false
namespace Go.Proofs.YthjdaehiebcoaaaGreatDoor
open Go.RowKit Go.Shelf

theorem shWrite : Lays.n166 Tryz.prog shJoin_ren := { shJoin with }
theorem shString : Lays.n169 Tryz.prog shJoin_ren := { shJoin with }
/-- a builder of the call's own that holds a text -/
def BuilderIs (b : Nat) (l : Str) (w : World) : Prop := Lib.IsBuilder 78 5 b b (Lib.byteCells l) w
theorem row_under {B : Nat} {e : TypeId} {k : Nat} {v : Value} {n : Nat} {xs : List Value} {w w' : World} (h : w.ownsRow B e k v n xs) (hb : Below w.heap.size w w') : w'.ownsRow B e k v n xs := by
  refine ⟨h.1, ?_⟩
  rcases h.2 with hn | ⟨g, cap, cur, rfl, hb0, hc, r⟩
  · exact .inl hn
  · exact .inr ⟨g, cap, cur, rfl, hb0, (hb.block g (Array.getElem?_eq_some_iff.1 hc).1).trans hc, r⟩
theorem BuilderIs.below {b : Nat} {l : Str} {w w' : World} (h : BuilderIs b l w) (hb : Below w.heap.size w w') : BuilderIs b l w' := by
  have one : ∀ p, Lib.BuilderAt 78 5 b b p (Lib.byteCells l) w → Lib.BuilderAt 78 5 b b p (Lib.byteCells l) w' := fun p hp => by
    have hlt := hp.lt
    obtain ⟨h1, v, h2, h3, h4⟩ := hp
    exact ⟨h1, v, (hb.block b hlt).trans h2, row_under h3 hb, h4⟩
  rcases h with h | h
  · exact .inl (one _ h)
  · exact .inr (one _ h)
theorem write_of (b : Nat) (l s : Str) (w : World) (h : BuilderIs b l w) (hl : l.length + s.length ≤ 10000000) : Calls Tryz.prog 38 #[.pointer (some ⟨b, 0, none⟩), .string (bs s)] w (fun e w' => e = .returned (.tuple #[.int .i64 s.length, .nilIface]) ∧ BuilderIs b (l ++ s) w' ∧ Below b w w') := by
  have hlt : b < w.heap.size := by
    rcases h with h | h <;> exact h.lt
  refine (Any.Builder_WriteString shWrite shExtra b b (Lib.byteCells l) (bs s) w h (by rw [Lib.byteCells_length, bs_size]; omega) (by omega)).mono ?_
  rintro e w' ⟨rfl, h1, h2⟩
  refine ⟨by rw [bs_size], .inr ?_, h2⟩
  have h3 := h1
  rw [Lib.strCells_eq, bs_list, ← Lib.byteCells_append] at h3
  exact h3
theorem string_of (b : Nat) (l : Str) (w : World) (h : BuilderIs b l w) : Calls Tryz.prog 40 #[.pointer (some ⟨b, 0, none⟩)] w (fun e w' => e = .returned (.string (bs l)) ∧ Below b w w') := by
  have hlt : b < w.heap.size := by
    rcases h with h | h <;> exact h.lt
  exact Any.Builder_String_any shString shExtra b b l w h (by omega)
theorem mustS_ok (s : ByteArray) (w : World) : Calls Tryz.prog 39 #[.string s, .nilIface] w (Gives (.string s) w) := by
  go_enter Tryz.func39, Tryz.ntmps39
  go_wp2_with fail
  refine (check_ok _).mono ?_
  rintro e w1 ⟨rfl, rfl⟩
  go_wp2_with fail
  go_ret
  exact ⟨rfl, rfl⟩
theorem mustS_no (s : ByteArray) (a : Addr) (w : World) : Calls Tryz.prog 39 #[.string s, errV a] w (Fails (errV a) w) := by
  go_enter Tryz.func39, Tryz.ntmps39
  go_wp2_with fail
  refine (check_no _ _).mono ?_
  rintro e w1 ⟨rfl, rfl⟩
  exact ⟨rfl, rfl, by go_grown⟩
/-- all lines; the first error's number -/
def tAll (l : List Ev) : Str := l.flatMap fun e => tLineOf e ++ [10]
def tAllN : List Ev → Int
  | [] => 0
  | e :: r => if tLineN e = 0 then tAllN r else tLineN e
theorem allN_num : ∀ l, tAllN l = 0 ∨ tAllN l = 1 ∨ tAllN l = 4
  | [] => .inl rfl
  | e :: r => by
    unfold tAllN
    split
    · exact allN_num r
    · exact line_num e
theorem allN_at : ∀ (l : List Ev) (j : Nat) (h : j < l.length), (∀ k (hk : k < j), tLineN (l[k]'(by omega)) = 0) → tLineN l[j] ≠ 0 → tAllN l = tLineN l[j]
  | [], j, h, _, _ => absurd h (by simp)
  | e :: r, 0, _, _, hn => by
    have hn' : tLineN e ≠ 0 := hn
    unfold tAllN; rw [if_neg hn']; rfl
  | e :: r, j + 1, h, ha, hn => by
    have h0 : tLineN e = 0 := ha 0 (by omega)
    unfold tAllN
    rw [if_pos h0]
    exact allN_at r j (by simpa using h) (fun k hk => ha (k + 1) (by omega)) hn
theorem allN_zero : ∀ (l : List Ev), (∀ k (hk : k < l.length), tLineN l[k] = 0) → tAllN l = 0
  | [], _ => rfl
  | e :: r, h => by
    have h0 : tLineN e = 0 := h 0 (by simp)
    unfold tAllN
    rw [if_pos h0]
    exact allN_zero r (fun k hk => h (k + 1) (by simpa using hk))
theorem all_take {l : List Ev} {j : Nat} (h : j < l.length) : tAll (l.take (j + 1)) = tAll (l.take j) ++ (tLineOf l[j] ++ [10]) := by
  rw [List.take_succ_eq_append_getElem h]
  unfold tAll
  rw [List.flatMap_append]
  simp
theorem line_len {e : Ev} (hs : evSizes e) (h0 : tLineN e = 0) : (tLineOf e).length ≤ 1000 := by
  obtain ⟨step, what, node, first, second⟩ := e
  obtain ⟨z1, z2, z3⟩ := hs
  dsimp only at z1 z2 z3
  have hr : 0 ≤ step ∧ step ≤ 999999 ∧ -1 ≤ node ∧ node ≤ 3 := by
    unfold tLineN at h0
    split at h0
    · split at h0
      · assumption
      · cases h0
    · cases h0
  have q1 := dec_len 5 step.toNat (by omega)
  have q2 : (tPlace node).length ≤ 7 := by
    unfold tPlace
    split
    · simp
    · have := dec_len 5 node.toNat (by omega)
      simp only [List.length_cons]; omega
  have q3 : ∀ x : Str, (tShown x).length ≤ x.length + 1 := fun x => by unfold tShown; split <;> simp_all
  have q4 := q3 first; have q5 := q3 second
  unfold tLineOf
  simp only [List.length_append, List.length_cons]
  omega
theorem all_len : ∀ (l : List Ev), (∀ e ∈ l, evSizes e) → (∀ e ∈ l, tLineN e = 0) → (tAll l).length ≤ l.length * 1001
  | [], _, _ => by simp [tAll]
  | e :: r, h1, h2 => by
    have h3 := all_len r (fun x hx => h1 x (by simp [hx])) (fun x hx => h2 x (by simp [hx]))
    have h4 := line_len (h1 e (by simp)) (h2 e (by simp))
    unfold tAll at h3 ⊢
    rw [List.flatMap_cons, List.length_append, List.length_append, List.length_cons, List.length_cons, List.length_nil]
    omega
theorem mem_take_lt {l : List Ev} {j : Nat} {P : Ev → Prop} (h : ∀ k (hk : k < l.length), k < j → P l[k]) : ∀ e ∈ l.take j, P e := by
  intro e he
  obtain ⟨k, hk, rfl⟩ := List.getElem_of_mem he
  rw [List.length_take] at hk
  rw [List.getElem_take]
  exact h k (by omega) (by omega)
set_option maxRecDepth 100000 in
set_option maxHeartbeats 4000000 in
theorem text1_of (es : List Ev) (hl : es.length ≤ 40) (hz : ∀ e ∈ es, evSizes e) (v : Value) (p : Addr) (ea : Int → Addr) (w : World) (h : Env ea w) (hv : RowV w v es) (hp : w.cell? p = some v) :
    Calls Tryz.prog 37 #[.pointer (some p)] w (Tries ea (tAllN es) (.string (bs (tAll es))) w) := by
  have HE := Lib.hid h; have HV := Lib.hid hv
  obtain ⟨b0, o0, A0, cap0, rfl, hA0, _⟩ := hv
  obtain ⟨n, hn⟩ : ∃ n : Nat, n = es.length := ⟨_, rfl⟩
  rw [← hn] at hl hp HV
  have HN := Lib.hid hn; have HZ := Lib.hid hz
  have hB0 : Below w.heap.size w (w.alloc (.cells #[.pointer none, .slice none 0 0] 78)) := (Below.refl _ _).alloc (Nat.le_refl _) _
  have hb0 : BuilderIs w.heap.size [] (w.alloc (.cells #[.pointer none, .slice none 0 0] 78)) := Lib.fresh_isBuilder _ _ w
  have HF := Lib.hid (And.intro hB0 hb0)
  clear h hn hz hA0 hB0 hb0
  go_enter Tryz.func37, Tryz.ntmps37
  have hp2 : (w.alloc (.cells #[.pointer none, .slice none 0 0] 78)).cell? p = some (.slice A0 n cap0) := (World.cell?_alloc_lt _ _ p (lt_of_cell hp)).trans hp
  go_wp2_with fail
  clear hp hp2
  go_loopw [7] (fun i wr => ∃ j : Nat, j ≤ n ∧ i = .int .i64 j ∧ Hid (BuilderIs w.heap.size (tAll (es.take j)) wr) ∧ Below w.heap.size w wr ∧ Hid (∀ k (hk : k < es.length), k < j → tLineN es[k] = 0)) (fun i _ => n - (intOf i).toNat)
  case atStart => exact ⟨0, Nat.zero_le _, rfl, Lib.hid HF.out.2, HF.out.1, Lib.hid (fun k _ hk => absurd hk (by omega))⟩
  case round =>
    obtain ⟨j, hj, rfl, HB, hBl, HZR⟩ := hrel
    have HBL := Lib.hid hBl
    clear hBl
    by_cases hjn : j < n
    · have hje : j < es.length := by rw [← HN.out]; exact hjn
      have hj0 : (0 : Int) ≤ (j : Int) := by omega
      have hj1 : (j : Int) < (n : Int) := by omega
      have hrow := HV.out.below HBL.out
      rw [HN.out] at hrow
      obtain ⟨b1, o1, A1, cap1, hv1, hA1, hc1⟩ := hrow
      injection hv1 with e1 e2 e3
      subst e1 e3
      obtain ⟨rfl, _⟩ := hA1 (by omega)
      obtain ⟨c0, c1, c2, c3, c4⟩ := hc1 j hje
      have hsz := HZ.out es[j] (List.getElem_mem _)
      have hlen : (tAll (es.take j)).length ≤ 40 * 1001 := by
        have := all_len (es.take j) (mem_take_lt fun k hk _ => HZ.out _ (List.getElem_mem _)) (mem_take_lt fun k hk hkj => HZR.out k hk hkj)
        rw [List.length_take] at this
        have : min j es.length * 1001 ≤ 40 * 1001 := Nat.mul_le_mul_right _ (by rw [← HN.out]; omega)
        omega
      have hnum := line_num es[j]
      have hLN := fun W hW => line_of es[j] hsz ea W hW
      have htk := all_take hje
      have hat := fun hne => allN_at es j hje (fun k hk => HZR.out k (by omega) hk) hne
      have hll := fun h0 => line_len hsz h0
      have hzr2 : tLineN es[j] = 0 → ∀ k (hk : k < es.length), k < j + 1 → tLineN es[k] = 0 := fun h0 k hk hkj => by
        rcases Nat.lt_or_ge k j with h1 | h1
        · exact HZR.out k hk h1
        · obtain rfl : k = j := by omega
          exact h0
      obtain ⟨q, hq⟩ : ∃ q, q = tLineN es[j] := ⟨_, rfl⟩
      obtain ⟨L, hL⟩ : ∃ L, L = tLineOf es[j] := ⟨_, rfl⟩
      unfold tLine at hLN
      rw [← hq, ← hL] at hLN
      rw [← hq] at hnum hat hzr2
      rw [← hL] at htk
      rw [← hq, ← hL] at hll
      obtain ⟨e, he⟩ : ∃ e, e = es[j] := ⟨_, rfl⟩
      rw [← he] at c0 c1 c2 c3 c4 hLN
      obtain ⟨step, what, node, first, second⟩ := e
      dsimp only [evV, evC] at c0 c1 c2 c3 c4 hLN
      clear hq hL he hsz hA1 hc1
      have HB2 := Lib.hid (HBL.out.alloc HBL.out.size (.cells #[.int .i64 step, .string (bs what), .int .i64 node, .string (bs first), .string (bs second)] 24))
      have HBD := Lib.hid (HB.out.below ((Below.refl wr.heap.size wr).alloc (Nat.le_refl _) (.cells #[.int .i64 step, .string (bs what), .int .i64 node, .string (bs first), .string (bs second)] 24)))
      by_cases h0 : q = 0
      · subst h0
        rw [if_pos rfl, show errOf ea 0 = .nilIface from rfl] at hLN
        have HL := Lib.hid hLN; have HTK := Lib.hid htk; have HZ2 := Lib.hid (hzr2 rfl)
        have hL1 := hll rfl
        have happ : bs L ++ (⟨#[10]⟩ : ByteArray) = bs (L ++ [10]) := by apply data_inj; simp [bs]
        have hlim : ¬ 9223372036854775807 < (bs L).size + 1 := by rw [bs_size]; omega
        have HLN := Lib.hid (And.intro hL1 hlen)
        clear hLN htk hzr2 hat hll hnum hL1 hlen
        go_wp2_with fail
        refine (HL.out _ (HE.out.below HB2.out)).mono ?_
        rintro e w1 ⟨rfl, hb1⟩
        have HB3 := Lib.hid (below_then HB2.out hb1); have HD3 := Lib.hid (HBD.out.below hb1)
        go_wp2_with fail
        refine (mustS_ok _ _).mono ?_
        rintro e w2 ⟨rfl, rfl⟩
        go_wp2_with fail
        refine (write_of w.heap.size _ (L ++ [10]) _ HD3.out (by have := HLN.out; simp only [List.length_append, List.length_cons, List.length_nil]; omega)).mono ?_
        rintro e w3 ⟨rfl, hbd, hb3⟩
        have HB4 := Lib.hid (HB3.out.trans hb3)
        have HD4 := Lib.hid hbd
        clear happ hlim hbd
        go_wp2_with fail
        go_roundw
        case rel => exact ⟨j + 1, by omega, by go_num, Lib.hid (by rw [HTK.out]; exact HD4.out), HB4.out, HZ2⟩
        case measure => (simp [intOf] <;> omega)
      · rw [if_neg h0, show errOf ea q = errV (ea q) from if_neg h0] at hLN
        have HL := Lib.hid hLN
        have HQ := Lib.hid (hat h0)
        have hq0 : q ≠ 0 := h0
        clear hLN htk hzr2 hat hll hnum hlen h0
        go_wp2_with fail
        refine (HL.out _ (HE.out.below HB2.out)).mono ?_
        rintro e w1 ⟨rfl, hb1⟩
        have HB3 := Lib.hid (below_then HB2.out hb1)
        go_wp2_with fail
        refine (mustS_no _ _ _).mono ?_
        rintro e w2 ⟨rfl, hb2⟩
        have hfin : Tries ea (tAllN es) (.string (bs (tAll es))) w (.panicked [{ v := errV (ea q), recovered := false }]) w2 := by
          rw [HQ.out, Tries, if_neg hq0]
          exact ⟨rfl, below_then HB3.out hb2⟩
        exact ⟨rfl, hfin⟩
    · obtain rfl : j = n := by omega
      have hall : tAllN es = 0 := allN_zero es (fun k hk => HZR.out k hk (by rw [HN.out]; exact hk))
      have htk : tAll (es.take j) = tAll es := by rw [List.take_of_length_le (by rw [HN.out]; exact Nat.le_refl _)]
      have HAL := Lib.hid hall
      rw [htk] at HB
      clear hall htk
      go_wp2_with fail
      refine (string_of w.heap.size _ _ HB.out).mono ?_
      rintro e w1 ⟨rfl, hb1⟩
      have HB1 := Lib.hid (HBL.out.trans hb1)
      go_wp2_with fail
      go_ret
      unfold Tries
      rw [if_pos HAL.out]
      exact ⟨rfl, HB1.out⟩
set_option maxHeartbeats 1000000 in
theorem try_gives_text (p : Addr) (s : ByteArray) (w : World) (h : ∀ W, Below w.heap.size w W → Calls Tryz.prog 37 #[.pointer (some p)] W (Makes (.string s) W)) :
    Calls Tryz.prog 36 #[.func (.func 37) #[] #[.pointer (some p)]] w (Makes (.tuple #[.string s, .nilIface]) w) := by
  have hmf : ∀ (fn : Fn) (first cap : Array Value) (w : World), (Instr.makeFunc fn first cap).run Tryz.prog w = .ok (.func fn first cap) w := fun _ _ _ _ => rfl
  have H := Lib.hid h
  clear h
  go_enter_defers Tryz.func36, Tryz.ntmps36
  go_wp2_with fail
  refine (H.out _ (by go_grown)).mono ?_
  rintro e w1 ⟨rfl, hb1⟩
  have HX := (((Blk.fresh w #[.string ⟨#[]⟩] 9 _ rfl).below (by go_grown)).below hb1 : Blk w1 w.heap.size _)
  have HE := (((Blk.fresh (w.alloc (.cells #[.string ⟨#[]⟩] 9)) #[.nilIface] 26 (w.heap.size + 1) (by simp)).below (by go_grown)).below hb1 : Blk w1 (w.heap.size + 1) _)
  have HD := ((Blk.fresh ((w.alloc (.cells #[.string ⟨#[]⟩] 9)).alloc (.cells #[.nilIface] 26)) #[.bool false] 4 (w.heap.size + 1 + 1) (by simp)).below hb1 : Blk w1 (w.heap.size + 1 + 1) _)
  have x0 : w1.cell? ⟨w.heap.size, 0, none⟩ = some (.string ⟨#[]⟩) := HX.cell 0
  have x1 := HX.free 0
  have e0 : w1.cell? ⟨w.heap.size + 1, 0, none⟩ = some .nilIface := HE.cell 0
  have e1 := HE.free 0
  have d0 : w1.cell? ⟨w.heap.size + 1 + 1, 0, none⟩ = some (.bool false) := HD.cell 0
  have d1 := HD.free 0
  clear HX HE HD
  have HB : Below w.heap.size w w1 := below_then (by go_grown) hb1
  go_wp2_with fail
  refine leaves_cons (f := 65) (args := #[.pointer (some ⟨w.heap.size + 1 + 1, 0, none⟩), .pointer (some ⟨w.heap.size, 0, none⟩), .pointer (some ⟨w.heap.size + 1, 0, none⟩)]) (by simp) (by simp [go_sem]) ?_
  refine (catch_idle_s _ _ _ _ (by simp [go_sem, d0, x0, e0])).mono ?_
  rintro e u' w'' ⟨rfl, rfl, rfl⟩
  simp [Leaves, settle, results, Tryz.results36, go_sem, d0, x0, e0, d1, x1, e1]
  exact ⟨rfl, (((HB.setCell (p := ⟨w.heap.size, 0, none⟩) (Nat.le_refl _) _).setCell (p := ⟨w.heap.size + 1 + 1, 0, none⟩) (by dsimp only; omega) _).setCell (p := ⟨w.heap.size, 0, none⟩) (Nat.le_refl _) _).setCell (p := ⟨w.heap.size + 1, 0, none⟩) (by dsimp only; omega) _⟩
set_option maxHeartbeats 1000000 in
theorem try_dies_text (p : Addr) (n : Int) (hn : 1 ≤ n ∧ n ≤ 14) (ea : Int → Addr) (w : World) (he : Errs ea w) (h : ∀ W, Below w.heap.size w W → Calls Tryz.prog 37 #[.pointer (some p)] W (Fails (errV (ea n)) W)) :
    Calls Tryz.prog 36 #[.func (.func 37) #[] #[.pointer (some p)]] w (Makes (.tuple #[.string ⟨#[]⟩, errV (ea n)]) w) := by
  have hmf : ∀ (fn : Fn) (first cap : Array Value) (w : World), (Instr.makeFunc fn first cap).run Tryz.prog w = .ok (.func fn first cap) w := fun _ _ _ _ => rfl
  have H := Lib.hid h
  have HR := Lib.hid he
  clear h he
  go_enter_defers Tryz.func36, Tryz.ntmps36
  go_wp2_with fail
  refine (H.out _ (by go_grown)).mono ?_
  rintro e w1 ⟨rfl, hb1⟩
  have HB : Below w.heap.size w w1 := below_then (by go_grown) hb1
  have HX := (((Blk.fresh w #[.string ⟨#[]⟩] 9 _ rfl).below (by go_grown)).below hb1 : Blk w1 w.heap.size _)
  have HE := (((Blk.fresh (w.alloc (.cells #[.string ⟨#[]⟩] 9)) #[.nilIface] 26 (w.heap.size + 1) (by simp)).below (by go_grown)).below hb1 : Blk w1 (w.heap.size + 1) _)
  have HD := ((Blk.fresh ((w.alloc (.cells #[.string ⟨#[]⟩] 9)).alloc (.cells #[.nilIface] 26)) #[.bool false] 4 (w.heap.size + 1 + 1) (by simp)).below hb1 : Blk w1 (w.heap.size + 1 + 1) _)
  have HER := HR.out.below HB
  refine leaves_cons (f := 65) (args := #[.pointer (some ⟨w.heap.size + 1 + 1, 0, none⟩), .pointer (some ⟨w.heap.size, 0, none⟩), .pointer (some ⟨w.heap.size + 1, 0, none⟩)]) (by simp) (by simp [go_sem]) ?_
  refine (catch_took_s _ _ _ _ n hn ea _ _ HD HX HE (by omega) HER).mono ?_
  rintro e u' w'' ⟨rfl, rfl, w2, hb2, rfl⟩
  have x0 : w1.cell? ⟨w.heap.size, 0, none⟩ = some (.string ⟨#[]⟩) := HX.cell 0
  have hx2 := HX.below hb2
  have he2 := HE.below hb2
  have x2 : w2.cell? ⟨w.heap.size, 0, none⟩ = some (.string ⟨#[]⟩) := hx2.cell 0
  have e2 : w2.cell? ⟨w.heap.size + 1, 0, none⟩ = some .nilIface := he2.cell 0
  have x3 := hx2.free 0
  have e3 := he2.free 0
  simp [Leaves, settle, results, Tryz.results36, go_sem, x2, e2, x3, e3]
  exact ⟨rfl, ((HB.trans (hb2.mono HB.size)).setCell (p := ⟨w.heap.size, 0, none⟩) (Nat.le_refl _) _).setCell (p := ⟨w.heap.size + 1, 0, none⟩) (by dsimp only; omega) _⟩
theorem text_of (es : List Ev) (hl : es.length ≤ 40) (hz : ∀ e ∈ es, evSizes e) (v : Value) (ea : Int → Addr) (w : World) (h : Env ea w) (hv : RowV w v es) :
    Calls Tryz.prog 12 #[v] w (Makes (.tuple #[.string (bs (if tAllN es = 0 then tAll es else [])), errOf ea (tAllN es)]) w) := by
  have hmf : ∀ (fn : Fn) (first cap : Array Value) (w : World), (Instr.makeFunc fn first cap).run Tryz.prog w = .ok (.func fn first cap) w := fun _ _ _ _ => rfl
  have hB : Below w.heap.size w (w.alloc (.cells #[v] 33)) := (Below.refl _ _).alloc (Nat.le_refl _) _
  have hc : ∀ W, Below (w.alloc (.cells #[v] 33)).heap.size (w.alloc (.cells #[v] 33)) W → Calls Tryz.prog 37 #[.pointer (some ⟨w.heap.size, 0, none⟩)] W (Tries ea (tAllN es) (.string (bs (tAll es))) W) := fun W hW =>
    text1_of es hl hz v _ ea W ((h.below hB).below hW) ((hv.below hB).below hW) (((Blk.fresh w #[v] 33 _ rfl).below hW).cell 0)
  have hE := h.e.below hB
  have hnum := allN_num es
  obtain ⟨b0, o0, A0, cap0, rfl, _, _⟩ := hv
  unfold errOf
  obtain ⟨n, hn⟩ : ∃ n, n = tAllN es := ⟨_, rfl⟩
  rw [← hn] at hc hnum ⊢
  by_cases h0 : n = 0
  · rw [if_pos h0, if_pos h0]
    have HT := Lib.hid (try_gives_text ⟨w.heap.size, 0, none⟩ _ _ (fun W hW => tries_makes' h0 (hc W hW)))
    clear h hc hE hnum hn h0
    go_enter Tryz.func12, Tryz.ntmps12
    go_wp2_with fail
    refine HT.out.mono ?_
    rintro e w1 ⟨rfl, hb1⟩
    go_wp2_with fail
    go_ret2
    exact ⟨rfl, below_then hB hb1⟩
  · rw [if_neg h0, if_neg h0]
    have HT := Lib.hid (try_dies_text ⟨w.heap.size, 0, none⟩ n (by omega) ea _ hE (fun W hW => tries_fails' h0 (hc W hW)))
    clear h hc hE hnum hn h0
    go_enter Tryz.func12, Tryz.ntmps12
    go_wp2_with fail
    refine HT.out.mono ?_
    rintro e w1 ⟨rfl, hb1⟩
    go_wp2_with fail
    go_ret2
    exact ⟨rfl, below_then hB hb1⟩
end Go.Proofs.YthjdaehiebcoaaaGreatDoor
