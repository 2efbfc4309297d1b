/- Num, FlA, FlC, ParP, StoV, PaA, PaB, PaC, PaE, PaH, TabN, RstE -/
import Derived.Test.YtlkajejbfojkeaaGreatDoorTQq
import Derived.Test.YtlkajejbfojkeaaGreatDoorRows
import Derived.WalkKit
import Derived.WalkSpells
import Derived.WalkLawsBesides
import Derived.BigQuiet
import Derived.Deep.QuietTactic
import Derived.StillTailTactics
import Derived.Handy
import Derived.Lib.Hide
import Derived.Test.YtlkajejbfojkeaaGreatDoorTTabPlainToMovB
import Derived.Test.YtlkajejbfojkeaaGreatDoorTMovCToTrcP
import Derived.Laws.Externs
import Derived.Laws.Cover2
import Derived.Test.YtlkajejbfojkeaaGreatDoorTStoNToFacE
import Derived.Test.YtlkajejbfojkeaaGreatDoorTStepToStoR
import Derived.Test.YtlkajejbfojkeaaGreatDoorTTabLToStoE
import Derived.Test.YtlkajejbfojkeaaGreatDoorTStoSToRfcA
import Derived.Test.YtlkajejbfojkeaaGreatDoorTFacDToFacI
import Derived.Laws.Tables
import Derived.Test.YtlkajejbfojkeaaGreatDoorTRstBToTabN
import Derived.Test.YtlkajejbfojkeaaGreatDoorTRstD
import Derived.Deep.RegionHeld3
import Derived.Deep.RegionWith
set_option linter.unusedSimpArgs false
set_option linter.unusedVariables false
set_option maxRecDepth 100000
set_option maxHeartbeats 16000000
namespace Go.Proofs.YtlkajejbfojkeaaGreatDoor
open Go.RowKit
theorem num_nil (w : World) : Calls Tryz.prog 20 #[.nilIface] w (Makes (.int .i64 0) w) := by
 go_enter Tryz.func20, Tryz.ntmps20
 go_wp2_with fail
 go_ret
 exact ⟨rfl, by go_grown⟩
theorem num_some (n : Int) (hn : 1 ≤ n ∧ n ≤ 14) (ea : Int → Addr) (w : World) (h : Errs ea w) : Calls Tryz.prog 20 #[errV (ea n)] w (Makes (.int .i64 n) w) := by
 have h1 : w.cell? ⟨0, 0, none⟩ = some (errV (ea 1)) := h.e1
 have h2 : w.cell? ⟨1, 0, none⟩ = some (errV (ea 2)) := h.e2
 have h3 : w.cell? ⟨2, 0, none⟩ = some (errV (ea 3)) := h.e3
 have h4 : w.cell? ⟨3, 0, none⟩ = some (errV (ea 4)) := h.e4
 have h5 : w.cell? ⟨4, 0, none⟩ = some (errV (ea 5)) := h.e5
 have h6 : w.cell? ⟨5, 0, none⟩ = some (errV (ea 6)) := h.e6
 have h7 : w.cell? ⟨6, 0, none⟩ = some (errV (ea 7)) := h.e7
 have h8 : w.cell? ⟨7, 0, none⟩ = some (errV (ea 8)) := h.e8
 have h9 : w.cell? ⟨8, 0, none⟩ = some (errV (ea 9)) := h.e9
 have h10 : w.cell? ⟨9, 0, none⟩ = some (errV (ea 10)) := h.e10
 have h11 : w.cell? ⟨10, 0, none⟩ = some (errV (ea 11)) := h.e11
 have h12 : w.cell? ⟨11, 0, none⟩ = some (errV (ea 12)) := h.e12
 have h13 : w.cell? ⟨12, 0, none⟩ = some (errV (ea 13)) := h.e13
 have h14 : w.cell? ⟨13, 0, none⟩ = some (errV (ea 14)) := h.e14
 have hB : Below w.heap.size w (w.alloc (.cells #[errV (ea 1), errV (ea 2), errV (ea 3), errV (ea 4), errV (ea 5), errV (ea 6), errV (ea 7), errV (ea 8), errV (ea 9), errV (ea 10), errV (ea 11), errV (ea 12), errV (ea 13), errV (ea 14)] 26)) := (Below.refl _ _).alloc (Nat.le_refl _) _
 have HE := qq (h.below hB); clear h
 have HC : Hid (∀ j : Nat, j < 14 → (w.alloc (.cells #[errV (ea 1), errV (ea 2), errV (ea 3), errV (ea 4), errV (ea 5), errV (ea 6), errV (ea 7), errV (ea 8), errV (ea 9), errV (ea 10), errV (ea 11), errV (ea 12), errV (ea 13), errV (ea 14)] 26)).cell? ⟨w.heap.size, j, none⟩ = some (errV (ea ((j : Int) + 1)))) := qq (fun j hj => by
   rw [World.cell?_alloc_new]
   match j, hj with
   | 0, _ | 1, _ | 2, _ | 3, _ | 4, _ | 5, _ | 6, _ | 7, _ | 8, _ | 9, _ | 10, _ | 11, _ | 12, _ | 13, _ => rfl)
 go_enter Tryz.func20, Tryz.ntmps20
 go_wp2_with fail
 clear h1 h2 h3 h4 h5 h6 h7 h8 h9 h10 h11 h12 h13 h14
 go_loop [25] (fun i => ∃ j : Nat, (j : Int) + 1 ≤ n ∧ i = .int .i64 j) (fun i => 14 - (intOf i).toNat)
 case atStart => exact ⟨0, by omega, rfl⟩
 case round =>
  obtain ⟨j, hj, rfl⟩ := hrel
  have hcj := HC.out j (by omega)
  by_cases hjn : (j : Int) + 1 = n
  · rw [hjn] at hcj
    have HJ := qq hjn; clear hjn
    go_wp2_with (go_at_call 82; refine (is_same _ _).mono ?_; rintro e w' ⟨rfl, rfl⟩)
    go_ret
    exact ⟨ret_int HJ.out, hB⟩
  · have hne : ea n ≠ ea ((j : Int) + 1) := fun he => hjn (HE.out.ne _ _ (by omega) (by omega) (by omega) (by omega) he).symm
    obtain ⟨c1, t1, r1⟩ := HE.out.row n (by omega) (by omega)
    obtain ⟨c2, t2, r2⟩ := HE.out.row ((j : Int) + 1) (by omega) (by omega)
    have HN := qq hne; clear hne
    have R1 := qq r1; clear r1
    have R2 := qq r2; clear r2
    go_wp2_with (go_at_call 82; refine (is_other _ _ _ _ _ _ _ HN.out R1.out R2.out).mono ?_; rintro e w' ⟨rfl, rfl⟩)
    go_round
    case rel => exact ⟨j + 1, by omega, by go_num⟩
    case measure => simp [intOf]; omega
theorem rplain_of (x : Nat) (hx : F64 x) (w : World) : Calls Tryz.prog 225 #[flV x] w (Gives (flV (fplain x)) w) := by
 have HB := qq (fun W => rbits_of x hx W)
 have hf := frombits_run
 obtain ⟨n, hn⟩ : ∃ n, n = fplain x := ⟨_, rfl⟩
 rw [← hn] at HB ⊢
 clear hn
 go_enter Tryz.func225, Tryz.ntmps225
 go_wp2_with (first | (go_at_call 120; refine (HB.out _).mono ?_; rintro e w1 ⟨rfl, rfl⟩))
 go_ret
 exact ⟨rfl, rfl⟩
def rkP (x : Nat) : Bool := fnan x || decide (x < 9223372036854775808)
def rkM (x : Nat) : Int := if fnan x = true then 18446744073709551615 else if x < 9223372036854775808 then (x : Int) else 9223372036854775807 - ((x : Int) - 9223372036854775808)
theorem rank_a (x : Nat) (hN : ∀ W, Calls Tryz.prog 218 #[flV x] W (Gives (.bool true) W)) (w : World) : Calls Tryz.prog 269 #[flV x] w (Gives (.tuple #[.bool true, .int .u64 18446744073709551615]) w) := by
 go_enter Tryz.func269, Tryz.ntmps269
 go_wp2_with (first | (go_at_call 218; refine (hN _).mono ?_; rintro e w1 ⟨rfl, rfl⟩))
 go_ret2
 exact ⟨rfl, rfl⟩
theorem rank_b (x : Nat) (y : Int) (hN : ∀ W, Calls Tryz.prog 218 #[flV x] W (Gives (.bool false) W)) (hR : ∀ W, Calls Tryz.prog 200 #[flV x] W (Gives (.int .u64 y) W)) (h1 : ¬ 9223372036854775808 ≤ y) (w : World) : Calls Tryz.prog 269 #[flV x] w (Gives (.tuple #[.bool true, .int .u64 y]) w) := by
 go_enter Tryz.func269, Tryz.ntmps269
 go_wp2_with (first | (go_at_call 218; refine (hN _).mono ?_; rintro e w1 ⟨rfl, rfl⟩) | (go_at_call 200; refine (hR _).mono ?_; rintro e w1 ⟨rfl, rfl⟩))
 go_ret2
 exact ⟨rfl, rfl⟩
theorem rank_c (x : Nat) (y z : Int) (hN : ∀ W, Calls Tryz.prog 218 #[flV x] W (Gives (.bool false) W)) (hR : ∀ W, Calls Tryz.prog 200 #[flV x] W (Gives (.int .u64 y) W)) (h1 : 9223372036854775808 ≤ y) (h2 : IntKind.u64.wrap (y - 9223372036854775808) = z) (h3 : IntKind.u64.wrap (9223372036854775807 - z) = 9223372036854775807 - z) (w : World) : Calls Tryz.prog 269 #[flV x] w (Gives (.tuple #[.bool false, .int .u64 (9223372036854775807 - z)]) w) := by
 go_enter Tryz.func269, Tryz.ntmps269
 go_wp2_with (first | (go_at_call 218; refine (hN _).mono ?_; rintro e w1 ⟨rfl, rfl⟩) | (go_at_call 200; refine (hR _).mono ?_; rintro e w1 ⟨rfl, rfl⟩))
 go_ret2
 exact ⟨rfl, rfl⟩
theorem rank_of (x : Nat) (hx : F64 x) (w : World) : Calls Tryz.prog 269 #[flV x] w (Gives (.tuple #[.bool (rkP x), .int .u64 (rkM x)]) w) := by
 have hN := fun W => rnan_of x hx W
 unfold F64 at hx
 unfold rkP rkM
 cases hn : fnan x with
 | true =>
  rw [hn] at hN
  exact rank_a x hN w
 | false =>
  rw [hn] at hN
  simp only [Bool.false_or, Bool.false_eq_true, if_false]
  by_cases h : x < 9223372036854775808
  · rw [decide_eq_true h, if_pos h]
    exact rank_b x (x : Int) hN (raw_of x) (by omega) w
  · rw [decide_eq_false h, if_neg h]
    exact rank_c x (x : Int) ((x : Int) - 9223372036854775808) hN (raw_of x) (by omega) (IntWalk.u64_in _ (by omega)) (IntWalk.u64_in _ (by omega)) w
def rob (p : Bool) (m : Int) (q : Bool) (n : Int) : Int := if p = false ∧ q = true then -1 else if p = true ∧ q = false then 1 else fcp m n
theorem rob_eq (x y : Nat) (hx : F64 x) (hy : F64 y) : rob (rkP x) (rkM x) (rkP y) (rkM y) = forder x y := by
 unfold F64 at hx hy
 unfold rob rkP rkM forder fplace fcp
 cases hnx : fnan x <;> cases hny : fnan y <;> simp only [Bool.false_or, Bool.true_or, Bool.false_eq_true, if_false, if_true, decide_eq_true_eq, decide_eq_false_iff_not, and_false, and_true, true_and, false_and, not_true, not_false_eq_true, Bool.true_eq_false]
 all_goals (repeat' split)
 all_goals omega
theorem rorder_any (x s : Nat) (p q : Bool) (m n : Int) (h1 : ∀ W, Calls Tryz.prog 269 #[flV x] W (Gives (.tuple #[.bool p, .int .u64 m]) W)) (h2 : ∀ W, Calls Tryz.prog 269 #[flV s] W (Gives (.tuple #[.bool q, .int .u64 n]) W)) (w : World) : Calls Tryz.prog 224 #[flV x, flV s] w (Gives (.int .i64 (rob p m q n)) w) := by
 unfold rob fcp
 have H1 := qq h1; have H2 := qq h2; clear h1 h2
 cases p <;> cases q <;> simp only [Bool.false_eq_true, if_false, if_true, and_false, and_true, true_and, false_and, Bool.true_eq_false, and_self]
 case false.true =>
  go_enter Tryz.func224, Tryz.ntmps224
  go_wp2_with fail
  refine (H1.out _).mono ?_; rintro e w1 ⟨rfl, rfl⟩
  go_wp2_with fail
  refine (H2.out _).mono ?_; rintro e w1 ⟨rfl, rfl⟩
  go_wp2
  go_ret
  exact ⟨rfl, rfl⟩
 case true.false =>
  go_enter Tryz.func224, Tryz.ntmps224
  go_wp2_with fail
  refine (H1.out _).mono ?_; rintro e w1 ⟨rfl, rfl⟩
  go_wp2_with fail
  refine (H2.out _).mono ?_; rintro e w1 ⟨rfl, rfl⟩
  go_wp2
  go_ret
  exact ⟨rfl, rfl⟩
 all_goals
  by_cases ha : m < n
  · rw [if_pos ha]
    go_enter Tryz.func224, Tryz.ntmps224
    go_wp2_with fail
    refine (H1.out _).mono ?_; rintro e w1 ⟨rfl, rfl⟩
    go_wp2_with fail
    refine (H2.out _).mono ?_; rintro e w1 ⟨rfl, rfl⟩
    go_wp2
    go_ret
    exact ⟨rfl, rfl⟩
  rw [if_neg ha]
  by_cases hb : n < m
  · rw [if_pos hb]
    go_enter Tryz.func224, Tryz.ntmps224
    go_wp2_with fail
    refine (H1.out _).mono ?_; rintro e w1 ⟨rfl, rfl⟩
    go_wp2_with fail
    refine (H2.out _).mono ?_; rintro e w1 ⟨rfl, rfl⟩
    go_wp2
    go_ret
    exact ⟨rfl, rfl⟩
  rw [if_neg hb]
  go_enter Tryz.func224, Tryz.ntmps224
  go_wp2_with fail
  refine (H1.out _).mono ?_; rintro e w1 ⟨rfl, rfl⟩
  go_wp2_with fail
  refine (H2.out _).mono ?_; rintro e w1 ⟨rfl, rfl⟩
  go_wp2
  go_ret
  exact ⟨rfl, rfl⟩
theorem rorder_of (x y : Nat) (hx : F64 x) (hy : F64 y) (w : World) : Calls Tryz.prog 224 #[flV x, flV y] w (Gives (.int .i64 (forder x y)) w) := by
 rw [← rob_eq x y hx hy]
 exact rorder_any x y _ _ _ _ (rank_of x hx) (rank_of y hy) w
def fJoin (pt an aq pr : Int) : SFact := ⟨6, an, aq, 0, 0, pt, pr, 0, 0, 0, 0, 0, 0, 0⟩
def fPlace (pt rg : Int) : SFact := ⟨7, 0, 0, rg, 0, pt, 0, 0, 0, 0, 0, 0, 0, 0⟩
def fTurn (pt s h : Int) : SFact := ⟨8, 0, 0, 0, 0, pt, 0, 0, 0, 0, s, h, 0, 0⟩
def isDown (k : Int) : Bool := decide (k = 2 ∨ 9 ≤ k ∧ k ≤ 14)
/-! a seat that is right: what comes of telling it, by a finite look -/
attribute [local go_sem] store_float
theorem clonePart_of (v : Value) (xs : List SPart) (w : World) (h : w.ownsRow 0 61 7 v xs.length (partsL xs)) (hl : xs.length ≤ 1000) :
    Calls Tryz.prog 101 #[v] w fun e w' => ∃ v', e = .returned v' ∧ w'.ownsRow w.heap.size 61 7 v' xs.length (partsL xs) ∧ Below w.heap.size w w' := by
 obtain ⟨i0, ei, ez, es, eb⟩ := info_parts infoPart
 have q22 : ∀ (w : World) (a : Option Addr) (n c n' c' : Nat), (binOp .eql 58 (.slice a n c) (.slice none n' c')).run Tryz.prog w = .ok (.bool a.isNone) w := fun w a n c n' c' => Lib.run_eql_slice_nil w _ _ a n c n' c' Tryz.underlying58
 rcases h.2 with ⟨rfl, h0⟩ | ⟨g, cap, cur, rfl, hb, hg, hnc, hcm, hcs, htake⟩
 · have hx : xs = [] := List.eq_nil_of_length_eq_zero h0
   subst hx
   clear h h0
   go_enter Tryz.func101, Tryz.ntmps101
   go_wp2
   go_ret
   exact ⟨_, rfl, World.ownsRow_nil _ _ _ _, Below.refl _ _⟩
 · have hown0 : (w.alloc (.cells #[] 61)).ownsRow w.heap.size 61 7 (.slice (some ⟨w.heap.size, 0, none⟩) 0 0) 0 [] :=
    World.ownsRow_lit w #[] 0 (Nat.le_refl _) (by decide) rfl
   have hcells : Hid (∀ j u, (partsL xs)[j]? = some u → (w.alloc (.cells #[] 61)).cell? ((⟨g, 0, none⟩ : Addr).add j) = some u) := (h.alloc _).cells (g := g) rfl
   have h1 : Hid (∀ u ∈ partsL xs, u.oneCell' = true) := flat_one partL partL_one xs
   have hlen : Hid ((partsL xs).length = xs.length * 7) := flat_length _ 7 partL_len xs
   clear htake hcs hg h
   obtain ⟨n, hn⟩ : ∃ n, n = xs.length := ⟨_, rfl⟩
   rw [← hn] at hl hnc hlen ⊢
   clear hn
   go_enter Tryz.func101, Tryz.ntmps101
   go_wp2_with (at_builtin; go_loud (refine wpList_append_own_at _ rfl _ _ 58 rfl w.heap.size 61 i0 (.agg #[.int .i64 0, .int .i64 0, .int .i64 0, .int .i64 0, .int .i64 0, .int .i64 0, .int .i64 0]) 7 56 Tryz.underlying58 ei ez es eb rfl (by decide) _ 0 [] rfl hown0 ⟨g, 0, none⟩ n cap (partsL xs) rfl hlen.out hcells.out h1.out ?c3 ?c4 ?c5 ?_))
   case c3 => unfold maxLen; omega
   case c4 => omega
   case c5 => simp
   · intro v' w1 hown1 hgrow _ hat
     (try simp only [Nat.zero_add, List.nil_append] at hown1)
     have hB : Below w.heap.size w w1 := ((Below.refl _ _).alloc (Nat.le_refl _) _).grown hgrow (by simp) (fun k hk => by simp [Value.ownBlock] at hk; omega)
     have HO := qq hown1
     obtain ⟨a', cap', rfl⟩ := row_slice hown1
     clear hown1 hgrow hat hcells h1 hlen
     go_wp2
     go_ret
     exact ⟨_, rfl, HO.out, hB⟩
theorem parts_of (L : SLoc) (S : Sto) (w : World) (h : StoreAt L S w) (hl : S.parts.length ≤ 8) : Calls Tryz.prog 26 #[.pointer (some ⟨L.sb, 0, none⟩)] w fun e w' => ∃ v', e = .returned v' ∧ w'.ownsRow w.heap.size 61 7 v' S.parts.length (partsL S.parts) ∧ Below w.heap.size w w' := by
 have c3 : w.cell? ⟨L.sb, 3, none⟩ = some L.pv := h.blk.cell 3
 have HC := qq (clonePart_of L.pv S.parts w h.parts (by omega))
 obtain ⟨a, cap, hv, _⟩ := part_row h.parts
 rw [hv] at c3 HC
 obtain ⟨n, hn⟩ : ∃ n, n = S.parts.length := ⟨_, rfl⟩
 rw [← hn] at c3 HC ⊢
 clear h hv hl hn
 go_enter Tryz.func26, Tryz.ntmps26
 go_wp2_with fail
 refine HC.out.mono ?_
 rintro e w1 ⟨v', rfl, ho, hb⟩
 have HO := qq ho
 obtain ⟨a', cap', rfl⟩ := row_slice ho
 clear ho
 go_wp2_with fail
 go_ret
 exact ⟨_, rfl, HO.out, hb⟩
open Go.RowKit Go.Shelf
abbrev oneV (p : SPart) (nd pt : Int) : Value := .agg #[.int .i64 p.an, .int .i64 p.aq, .int .i64 p.rg, .int .i64 p.seat.p, .int .i64 p.seat.d, .int .i64 p.seat.s, .int .i64 p.seat.h, .int .i64 nd, .int .i64 pt]
theorem down_of (k : Int) (w : World) : Calls Tryz.prog 129 #[.int .i64 k] w (Gives (.bool (isDown k)) w) := by
 have HW := qq (lwithin_of k 9 14 w)
 unfold isDown
 by_cases h : k = 2
 · have e : (k == 2) = true := by simpa using h
   rw [decide_eq_true (Or.inl h)]
   clear h
   go_enter Tryz.func129, Tryz.ntmps129
   go_wp2_with fail
   go_ret
   exact ⟨rfl, rfl⟩
 · have e : (k == 2) = false := by simpa using h
   rw [show decide (k = 2 ∨ 9 ≤ k ∧ k ≤ 14) = decide (9 ≤ k ∧ k ≤ 14) from decide_eq_decide.2 ⟨fun x => x.resolve_left h, Or.inr⟩]
   clear h
   go_enter Tryz.func129, Tryz.ntmps129
   go_wp2_with fail
   refine HW.out.mono ?_
   rintro e w1 ⟨rfl, rfl⟩
   go_wp2_with fail
   go_ret
   exact ⟨ret_bool (by simp), rfl⟩
theorem placed_of (p : SPart) (nd pt : Int) (w : World) : Calls Tryz.prog 123 #[oneV p nd pt] w (Makes (.bool (decide (0 ≤ p.rg))) w) := by
 obtain ⟨an, aq, rg, ⟨sp, sd, ss, sh⟩⟩ := p
 dsimp only [oneV]
 go_enter Tryz.func123, Tryz.ntmps123
 go_wp2_with fail
 go_ret
 exact ⟨rfl, by go_grown⟩
theorem message_of (p : SPart) (nd pt k : Int) (w : World) : Calls Tryz.prog 142 #[oneV p nd pt, .int .i64 k] w (Makes (msgV ⟨k, nd, p.an, p.an, p.aq, max p.rg 0, pt, 0, 0⟩) w) := by
 obtain ⟨an, aq, rg, ⟨sp, sd, ss, sh⟩⟩ := p
 dsimp only [oneV, msgV, msgA]
 by_cases h : 0 ≤ rg
 · rw [show max rg 0 = rg by omega]
   go_enter Tryz.func142, Tryz.ntmps142
   go_wp2_with fail
   exact bodyPost_ret (v := .agg #[.int .i64 k, .int .i64 nd, .int .i64 an, .int .i64 an, .int .i64 aq, .int .i64 rg, .int .i64 pt, .int .i64 0, .int .i64 0]) (by simp [results, Tryz.results142, go_sem]; omega) rfl ⟨rfl, by go_grown⟩
 · rw [show max rg 0 = 0 by omega]
   go_enter Tryz.func142, Tryz.ntmps142
   go_wp2_with fail
   exact bodyPost_ret (v := .agg #[.int .i64 k, .int .i64 nd, .int .i64 an, .int .i64 an, .int .i64 aq, .int .i64 0, .int .i64 pt, .int .i64 0, .int .i64 0]) (by simp [results, Tryz.results142, go_sem]; omega) rfl ⟨rfl, by go_grown⟩
theorem register_of (p : SPart) (nd pt : Int) (w : World) : Calls Tryz.prog 135 #[oneV p nd pt] w (Makes (msgV ⟨17, nd, p.an, p.an, p.aq, 0, pt, p.seat.p, 0⟩) w) := by
 have HM := qq (fun W => message_of p nd pt 17 W)
 obtain ⟨an, aq, rg, ⟨sp, sd, ss, sh⟩⟩ := p
 obtain ⟨x, hx⟩ : ∃ x, x = max rg 0 := ⟨_, rfl⟩
 dsimp only [oneV, msgV, msgA] at *
 rw [← hx] at HM
 clear hx
 go_enter Tryz.func135, Tryz.ntmps135
 go_wp2_with fail
 refine (HM.out _).mono ?_
 rintro e w1 ⟨rfl, hb⟩
 have B1 : Below w.heap.size w w1 := below_then (by go_grown) hb
 have HV := qq ((Blk.fresh (w.alloc (.cells #[.int .i64 an, .int .i64 aq, .int .i64 rg, .int .i64 sp, .int .i64 sd, .int .i64 ss, .int .i64 sh, .int .i64 nd, .int .i64 pt] 205)) #[.int .i64 0, .int .i64 0, .int .i64 0, .int .i64 0, .int .i64 0, .int .i64 0, .int .i64 0, .int .i64 0, .int .i64 0] 81 (w.heap.size + 1) (by simp)).below hb)
 obtain ⟨q, qf⟩ := (((Blk.fresh w #[.int .i64 an, .int .i64 aq, .int .i64 rg, .int .i64 sp, .int .i64 sd, .int .i64 ss, .int .i64 sh, .int .i64 nd, .int .i64 pt] 205 _ rfl).alloc (.cells #[.int .i64 0, .int .i64 0, .int .i64 0, .int .i64 0, .int .i64 0, .int .i64 0, .int .i64 0, .int .i64 0, .int .i64 0] 81)).below hb).out
 obtain ⟨qv, fv⟩ := HV.out.out
 have hz := hb.size
 simp only [World.size_alloc] at hz
 have hz1 : w.heap.size + 1 < w1.heap.size := by omega
 have hz0 : w.heap.size < w1.heap.size := by omega
 have HT : Hid (w1.heap[w.heap.size + 1]? = some (.cells #[.int .i64 0, .int .i64 0, .int .i64 0, .int .i64 0, .int .i64 0, .int .i64 0, .int .i64 0, .int .i64 0, .int .i64 0] 81 (0, 0))) := qq ((hb.block _ (by simp)).trans (by rw [show w.heap.size + 1 = (w.alloc (.cells #[.int .i64 an, .int .i64 aq, .int .i64 rg, .int .i64 sp, .int .i64 sd, .int .i64 ss, .int .i64 sh, .int .i64 nd, .int .i64 pt] 205)).heap.size by simp]; exact heap_alloc_new _ _))
 clear hb
 have HT2 : Hid ((World.drew (w1.alloc (.cells #[.int .i64 17, .int .i64 nd, .int .i64 an, .int .i64 an, .int .i64 aq, .int .i64 0, .int .i64 pt, .int .i64 sp, .int .i64 0] 81))).heap[w.heap.size + 1]? = some (.cells #[.int .i64 0, .int .i64 0, .int .i64 0, .int .i64 0, .int .i64 0, .int .i64 0, .int .i64 0, .int .i64 0, .int .i64 0] 81 (0, 0))) := qq ((((Below.refl w1.heap.size w1).alloc (Nat.le_refl _) (.cells #[.int .i64 17, .int .i64 nd, .int .i64 an, .int .i64 an, .int .i64 aq, .int .i64 0, .int .i64 pt, .int .i64 sp, .int .i64 0] 81)).drew.block _ hz1).trans HT.out)
 obtain ⟨HFr, hgr⟩ := row_end (cells := #[.int .i64 17, .int .i64 nd, .int .i64 an, .int .i64 an, .int .i64 aq, .int .i64 0, .int .i64 pt, .int .i64 sp, .int .i64 0]) HT2.out
 have HB1 := qq (((B1.alloc B1.size (.cells #[.int .i64 17, .int .i64 nd, .int .i64 an, .int .i64 an, .int .i64 aq, .int .i64 0, .int .i64 pt, .int .i64 sp, .int .i64 0] 81)).drew).grown hgr ((B1.alloc B1.size (.cells #[.int .i64 17, .int .i64 nd, .int .i64 an, .int .i64 an, .int .i64 aq, .int .i64 0, .int .i64 pt, .int .i64 sp, .int .i64 0] 81)).drew).size (fun k hk => by injection hk with hk; omega))
 go_wp2_with fail
 go_region
 clear qv fv
 obtain ⟨q1, f1⟩ := HFr.out
 clear hgr HFr
 go_wp2_with (refine wpList_store_row rfl 81 (.tmp 2) (.tmp 12) rfl (w.heap.size + 1) #[.int .i64 17, .int .i64 nd, .int .i64 an, .int .i64 an, .int .i64 aq, .int .i64 0, .int .i64 pt, .int .i64 sp, .int .i64 0] rfl rfl 81 #[.int .i64 0, .int .i64 0, .int .i64 0, .int .i64 0, .int .i64 0, .int .i64 0, .int .i64 0, .int .i64 0, .int .i64 0] HT2.out (by kernel_rfl) rfl (by simp [Value.oneCell']) ?_)
 exact bodyPost_ret (v := .agg #[.int .i64 17, .int .i64 nd, .int .i64 an, .int .i64 an, .int .i64 aq, .int .i64 0, .int .i64 pt, .int .i64 sp, .int .i64 0]) (by simp [results, Tryz.results135, go_sem, q1, f1]) rfl ⟨rfl, HB1.out⟩
theorem pturned_of (p : SPart) (nd pt : Int) (x : MSeat) (w : World) : Calls Tryz.prog 126 #[oneV p nd pt, seatV x] w (Makes (factV (fTurn pt x.s x.h)) w) := by
 obtain ⟨an, aq, rg, ⟨sp, sd, ss, sh⟩⟩ := p
 obtain ⟨xp, xd, xs, xh⟩ := x
 dsimp only [oneV, seatV, factV, factC, fTurn]
 go_enter Tryz.func126, Tryz.ntmps126
 go_wp2_with fail
 (try go_quiet (fail))
 all_goals (try go_wp2_with fail)
 all_goals exact bodyPost_ret (v := .agg #[.int .i64 8, .int .i64 0, .int .i64 0, .int .i64 0, .int .i64 0, .int .i64 pt, .int .i64 0, .int .i64 0, .int .i64 0, .int .i64 0, .int .i64 xs, .int .i64 xh, .int .i64 0, .float .f64 0]) (by simp [results, Tryz.results126, go_sem]) rfl ⟨rfl, by go_grown⟩
def fitsB (p : SPart) (nd : Int) (m : SMsg) : Bool := decide (p.an = m.an ∧ p.aq = m.aq ∧ m.fr = m.an ∧ m.to = nd ∧ (p.rg < 0 ∨ p.rg = m.rg))
theorem fits_of (p : SPart) (nd pt : Int) (m : SMsg) (w : World) : Calls Tryz.prog 122 #[oneV p nd pt, msgV m] w (Makes (.bool (fitsB p nd m)) w) := by
 have HP := qq (fun W => placed_of p nd pt W)
 have hse := fun W => actEq p.an p.aq m.an m.aq W
 unfold fitsB
 obtain ⟨t, ht⟩ : ∃ t, t = decide (p.an = m.an ∧ p.aq = m.aq) := ⟨_, rfl⟩
 rw [← ht] at hse
 have HT := qq ht
 clear ht
 obtain ⟨an, aq, rg, ⟨sp, sd, ss, sh⟩⟩ := p
 obtain ⟨mk, fr, tQ, man, maq, mrg, mpt, mpr, mco⟩ := m
 dsimp only [oneV, msgV, msgA] at *
 obtain ⟨pb, hpb⟩ : ∃ pb, pb = decide (0 ≤ rg) := ⟨_, rfl⟩
 rw [← hpb] at HP
 have HPB := qq hpb
 clear hpb
 cases t with
 | false =>
  rw [show decide (an = man ∧ aq = maq ∧ fr = man ∧ tQ = nd ∧ (rg < 0 ∨ rg = mrg)) = false from decide_eq_false (fun h => by have := HT.out; rw [eq_comm, decide_eq_false_iff_not] at this; exact this ⟨h.1, h.2.1⟩)]
  go_enter Tryz.func122, Tryz.ntmps122
  go_wp2_with fail
  (try go_quiet (fail))
  all_goals (try go_wp2_with fail)
  all_goals go_ret
  all_goals exact ⟨rfl, by go_grown⟩
 | true =>
  have h12 : an = man ∧ aq = maq := by have := HT.out; rw [eq_comm, decide_eq_true_eq] at this; exact this
  have hrest : decide (an = man ∧ aq = maq ∧ fr = man ∧ tQ = nd ∧ (rg < 0 ∨ rg = mrg)) = decide (fr = man ∧ tQ = nd ∧ (rg < 0 ∨ rg = mrg)) := decide_eq_decide.2 ⟨fun h => h.2.2, fun h => ⟨h12.1, h12.2, h⟩⟩
  rw [hrest]
  clear hrest h12
  by_cases h3 : fr = man
  case neg =>
   have e3 : (fr == man) = false := by simpa using h3
   rw [decide_eq_false (fun h => h3 h.1)]
   clear h3
   go_enter Tryz.func122, Tryz.ntmps122
   go_wp2_with fail
   (try go_quiet (fail))
   all_goals (try go_wp2_with fail)
   all_goals go_ret
   all_goals exact ⟨rfl, by go_grown⟩
  by_cases h4 : tQ = nd
  case neg =>
   have e3 : (fr == man) = true := by simpa using h3
   have e4 : (tQ == nd) = false := by simpa using h4
   rw [decide_eq_false (fun h => h4 h.2.1)]
   clear h3 h4
   go_enter Tryz.func122, Tryz.ntmps122
   go_wp2_with fail
   (try go_quiet (fail))
   all_goals (try go_wp2_with fail)
   all_goals go_ret
   all_goals exact ⟨rfl, by go_grown⟩
  have e3 : (fr == man) = true := by simpa using h3
  have e4 : (tQ == nd) = true := by simpa using h4
  rw [show decide (fr = man ∧ tQ = nd ∧ (rg < 0 ∨ rg = mrg)) = decide (rg < 0 ∨ rg = mrg) from decide_eq_decide.2 ⟨fun h => h.2.2, fun h => ⟨h3, h4, h⟩⟩]
  clear h3 h4
  cases pb with
  | false =>
   have h5 : rg < 0 := by have := HPB.out; rw [eq_comm, decide_eq_false_iff_not] at this; omega
   rw [decide_eq_true (Or.inl h5)]
   clear h5
   go_enter Tryz.func122, Tryz.ntmps122
   go_wp2_with fail
   (try go_quiet (fail))
   all_goals (try go_wp2_with fail)
   refine (HP.out _).mono ?_
   rintro e w1 ⟨rfl, hb⟩
   have B1 : Below w.heap.size w w1 := below_then (by go_grown) hb
   go_wp2_with fail
   go_ret
   exact ⟨rfl, B1⟩
  | true =>
   have h5 : ¬ rg < 0 := by have := HPB.out; rw [eq_comm, decide_eq_true_eq] at this; omega
   rw [show decide (rg < 0 ∨ rg = mrg) = (rg == mrg) by rw [Bool.eq_iff_iff]; simp; omega]
   obtain ⟨t6, h6⟩ : ∃ t6, t6 = (rg == mrg) := ⟨_, rfl⟩
   have e6 : (rg == mrg) = t6 := h6.symm
   rw [← h6]
   clear h5 h6
   go_enter Tryz.func122, Tryz.ntmps122
   go_wp2_with fail
   (try go_quiet (fail))
   all_goals (try go_wp2_with fail)
   refine (HP.out _).mono ?_
   rintro e w1 ⟨rfl, hb⟩
   have B1 : Below w.heap.size w w1 := below_then (by go_grown) hb
   obtain ⟨q1, qf1⟩ := (((Blk.fresh w #[.int .i64 an, .int .i64 aq, .int .i64 rg, .int .i64 sp, .int .i64 sd, .int .i64 ss, .int .i64 sh, .int .i64 nd, .int .i64 pt] 205 _ rfl).below (by go_grown)).below hb).out
   obtain ⟨q2, qf2⟩ := (((Blk.fresh (w.alloc (.cells #[.int .i64 an, .int .i64 aq, .int .i64 rg, .int .i64 sp, .int .i64 sd, .int .i64 ss, .int .i64 sh, .int .i64 nd, .int .i64 pt] 205)) #[.int .i64 mk, .int .i64 fr, .int .i64 tQ, .int .i64 man, .int .i64 maq, .int .i64 mrg, .int .i64 mpt, .int .i64 mpr, .int .i64 mco] 81 (w.heap.size + 1) (by simp)).below (by go_grown)).below hb).out
   go_wp2_with fail
   (try go_quiet (fail))
   all_goals (try go_wp2_with fail)
   all_goals go_ret
   all_goals exact ⟨ret_bool (by first | rfl | exact e6 | simp [e6]), by go_grown⟩
theorem factL_one (f : SFact) : ∀ u ∈ factL f, u.oneCell' = true := by
 intro u hu
 simp only [factL, List.mem_cons, List.not_mem_nil, or_false] at hu
 rcases hu with rfl | rfl | rfl | rfl | rfl | rfl | rfl | rfl | rfl | rfl | rfl | rfl | rfl | rfl <;> rfl
theorem msgL_one (m : SMsg) : ∀ u ∈ msgL m, u.oneCell' = true := by
 intro u hu
 simp only [msgL, List.mem_cons, List.not_mem_nil, or_false] at hu
 rcases hu with rfl | rfl | rfl | rfl | rfl | rfl | rfl | rfl | rfl <;> rfl
theorem infoFact : (Tryz.prog.info? 39).map (fun i => (i.zero, i.size, i.bytes)) = some (some (.agg #[.int .i64 0, .int .i64 0, .int .i64 0, .int .i64 0, .int .i64 0, .int .i64 0, .int .i64 0, .int .i64 0, .int .i64 0, .int .i64 0, .int .i64 0, .int .i64 0, .int .i64 0, .float .f64 0]), 14, 112) := by kernel_rfl
theorem infoMsg : (Tryz.prog.info? 81).map (fun i => (i.zero, i.size, i.bytes)) = some (some (.agg #[.int .i64 0, .int .i64 0, .int .i64 0, .int .i64 0, .int .i64 0, .int .i64 0, .int .i64 0, .int .i64 0, .int .i64 0]), 9, 72) := by kernel_rfl
theorem res_fresh (w : World) (wk : Int) (T : TypeId) : ResAt ⟨w.heap.size, .slice none 0 0, .slice none 0 0⟩ ⟨[], [], wk⟩ (w.alloc (.cells #[.slice none 0 0, .slice none 0 0, .int .i64 wk] T)) :=
 ⟨Blk.fresh w _ T _ rfl, World.ownsRow_nil _ _ _ _, World.ownsRow_nil _ _ _ _, by simp [Value.ownBlock], by simp [Value.ownBlock], by simp [Value.ownBlock]⟩
theorem q_fs {q : QLoc} {r : SRes} {w W w2 : World} {v2 : Value} {f : SFact} (h : ResAt q r w) (hb : Below w.heap.size w W) (hg : W.grownBy w2 q.fv.ownBlock) (hrow : w2.ownsRow 0 39 14 v2 (r.fs.length + 1) (factsL r.fs ++ factL f)) (hat : v2.ownBlock = q.fv.ownBlock ∨ v2.ownBlock = some W.heap.size) :
    QGoes q { r with fs := r.fs ++ [f] } w (w2.setCell ⟨q.rb, 0, none⟩ v2) := by
 have ho : ∀ k, q.mv.ownBlock = some k → k < w.heap.size := fun k hk => (h.ms.lt k hk).2
 have hW := h.blk.below hb
 have hv2 : v2.ownBlock ≠ some q.rb := by
  rcases hat with e | e
  · rw [e]; exact h.n1
  · rw [e]; intro e'; injection e' with e'; have := hW.lt; omega
 have hblk : Blk w2 q.rb #[q.fv, q.mv, .int .i64 r.wk] := hW.same hg.size (hg.block _ hW.lt (fun e => h.n1 e.symm))
 refine ⟨⟨q.rb, v2, q.mv⟩, rfl, ⟨hblk.set' 0 (by simp) v2, (by
     rw [List.length_append]
     refine row_heap (xs := factsL (r.fs ++ [f])) ?_ (fun k hk => Below.heap_setCell _ _ _ _ (fun e => hv2 (by rw [hk, e])))
     unfold factsL at hrow ⊢
     rw [List.flatMap_append]
     simpa using hrow), (row_heap h.ms (fun k hk => (Below.heap_setCell _ _ _ _ (fun e => h.n2 (by rw [hk, e]))).trans ((hg.block k (Nat.lt_of_lt_of_le (ho k hk) hb.size) (fun e => h.n3 k e.symm hk)).trans (hb.block k (ho k hk))))), hv2, h.n2, fun k hk => by
     rcases hat with e | e
     · exact h.n3 k (by rw [← e]; exact hk)
     · have hk' : v2.ownBlock = some k := hk
       rw [e] at hk'; injection hk' with hk'; subst hk'
       intro e'; have := ho _ e'; have := hb.size; omega⟩, ((Goes.of_below hb).trans ((Goes.grown hg (fun k hk => QLoc.mem.2 (.inr (.inl hk)))).trans (Goes.setCell q.rb 0 v2 (QLoc.mem.2 (.inl rfl))))).change (fun k hk => ?_)⟩
 rcases QLoc.mem.1 hk with e | e | e
 · exact .inl (QLoc.mem.2 (.inl e))
 · rcases hat with e2 | e2; exact .inl (QLoc.mem.2 (.inr (.inl (by rw [← e2]; exact e)))); have e3 : v2.ownBlock = some k := e; rw [e2] at e3; injection e3 with e3; exact .inr (by have := hb.size; omega)
 · exact .inl (QLoc.mem.2 (.inr (.inr e)))
theorem remember_of (q : QLoc) (r : SRes) (f : SFact) (w : World) (h : ResAt q r w) (hl : r.fs.length ≤ 1000) :
    Calls Tryz.prog 124 #[.pointer (some ⟨q.rb, 0, none⟩), factV f] w fun e w' => e = .returned (.tuple #[]) ∧ QGoes q { r with fs := r.fs ++ [f] } w w' := by
 obtain ⟨i0, ei, ez, es, eb⟩ := info_parts infoFact
 have hrb := h.blk.lt
 obtain ⟨n, hn⟩ : ∃ n, n = r.fs.length := ⟨_, rfl⟩
 have HE := qq (fun W w2 v2 (h2 : Below w.heap.size w W) (h3 : W.grownBy w2 q.fv.ownBlock) (h4 : w2.ownsRow 0 39 14 v2 (n + 1) (factsL r.fs ++ factL f)) h5 => q_fs (f := f) h h2 h3 (by rw [← hn]; exact h4) h5)
 obtain ⟨a, cap, hv⟩ := row_slice h.fs
 have HO := qq (fun W (hW : Below w.heap.size w W) => (show W.ownsRow 0 39 14 q.fv n (factsL r.fs) by rw [hn]; exact row_heap h.fs (fun k hk => hW.block k (h.fs.lt k hk).2)))
 rw [← hn] at hv hl
 have HV := qq hv
 have HQ := qq (fun W (hW : Below w.heap.size w W) => (show W.cell? ⟨q.rb, 0, none⟩ = some (.slice a n cap) by rw [← hv]; exact (h.blk.below hW).cell 0))
 have HN := qq h.n1
 have HF := qq (fun W (hW : Below w.heap.size w W) => (h.blk.below hW).free 0)
 have c0 := HQ.out w (Below.refl _ _)
 have hfr := h.blk.free
 obtain ⟨rb, fv, mv⟩ := q
 dsimp only at *
 obtain ⟨k, an, aq, rg, nd, pt, pr, oc, dp, pa, st, hw, de, ex⟩ := f
 dsimp only [factV, factC] at *
 clear h hn hfr hv
 go_enter Tryz.func124, Tryz.ntmps124
 go_wp2_with fail
 go_region_law (refine step_app rfl (.tmp 8) (.tmp 10) 22 rfl 0 39 i0 (.agg #[.int .i64 0, .int .i64 0, .int .i64 0, .int .i64 0, .int .i64 0, .int .i64 0, .int .i64 0, .int .i64 0, .int .i64 0, .int .i64 0, .int .i64 0, .int .i64 0, .int .i64 0, .float .f64 0]) 14 112 Tryz.underlying22 ei ez es eb rfl (by decide) (.slice a n cap) n (factsL r.fs) (by rfl) (by rw [← HV.out]; exact HO.out _ (by go_grown)) ⟨w.heap.size + 1, 0, none⟩ 1 1 (factL ⟨k, an, aq, rg, nd, pt, pr, oc, dp, pa, st, hw, de, ex⟩) (by rfl) rfl (lit_cells (by first | exact (Blk.fresh _ _ _ _ (by simp)).drew | exact Blk.fresh _ _ _ _ (by simp))) (factL_one _) (by unfold maxLen; omega) (by omega) (Nat.zero_le _) ?_; intro v2 w2 hown2 hgrow2 hat2; rw [← HV.out] at hgrow2 hat2; have s2 : w2.cell? ⟨rb, 0, none⟩ = some (.slice a n cap) := hgrow2.cell (HQ.out _ (by go_grown)) (fun e => HN.out e.symm); have f2 : w2.frozen? ⟨rb, 0, none⟩ = false := (World.frozen?_of_block (a := ⟨rb, 0, none⟩) (hgrow2.block _ (World.block_lt_of_cell? _ _ (HQ.out _ (by go_grown))) (fun e => HN.out e.symm))).trans (HF.out _ (by go_grown)); have HZ := qq (HE.out _ w2 v2 (by go_grown) hgrow2 hown2 hat2); obtain ⟨a2, c2, rfl⟩ := row_slice hown2; clear hown2 hgrow2 hat2)
 all_goals go_wp2_with fail
 all_goals exact bodyPost_end (results_none rfl _ _ _) rfl ⟨rfl, HZ.out⟩
theorem q_ms {q : QLoc} {r : SRes} {w W w2 : World} {v2 : Value} {f : SMsg} (h : ResAt q r w) (hb : Below w.heap.size w W) (hg : W.grownBy w2 q.mv.ownBlock) (hrow : w2.ownsRow 0 81 9 v2 (r.ms.length + 1) (msgsL r.ms ++ msgL f)) (hat : v2.ownBlock = q.mv.ownBlock ∨ v2.ownBlock = some W.heap.size) :
    QGoes q { r with ms := r.ms ++ [f] } w (w2.setCell ⟨q.rb, 1, none⟩ v2) := by
 have ho : ∀ k, q.fv.ownBlock = some k → k < w.heap.size := fun k hk => (h.fs.lt k hk).2
 have hW := h.blk.below hb
 have hv2 : v2.ownBlock ≠ some q.rb := by
  rcases hat with e | e
  · rw [e]; exact h.n2
  · rw [e]; intro e'; injection e' with e'; have := hW.lt; omega
 have hblk : Blk w2 q.rb #[q.fv, q.mv, .int .i64 r.wk] := hW.same hg.size (hg.block _ hW.lt (fun e => h.n2 e.symm))
 refine ⟨⟨q.rb, q.fv, v2⟩, rfl, ⟨hblk.set' 1 (by simp) v2, (row_heap h.fs (fun k hk => (Below.heap_setCell _ _ _ _ (fun e => h.n1 (by rw [hk, e]))).trans ((hg.block k (Nat.lt_of_lt_of_le (ho k hk) hb.size) (fun e => h.n3 k hk e.symm)).trans (hb.block k (ho k hk))))), (by
     rw [List.length_append]
     refine row_heap (xs := msgsL (r.ms ++ [f])) ?_ (fun k hk => Below.heap_setCell _ _ _ _ (fun e => hv2 (by rw [hk, e])))
     unfold msgsL at hrow ⊢
     rw [List.flatMap_append]
     simpa using hrow), h.n1, hv2, fun k hk e' => by
     have e2 : v2.ownBlock = some k := e'
     rcases hat with e | e
     · exact h.n3 k hk (by rw [← e]; exact e2)
     · rw [e] at e2; injection e2 with e2; subst e2
       have := ho _ hk; have := hb.size; omega⟩, ((Goes.of_below hb).trans ((Goes.grown hg (fun k hk => QLoc.mem.2 (.inr (.inr hk)))).trans (Goes.setCell q.rb 1 v2 (QLoc.mem.2 (.inl rfl))))).change (fun k hk => ?_)⟩
 rcases QLoc.mem.1 hk with e | e | e
 · exact .inl (QLoc.mem.2 (.inl e))
 · exact .inl (QLoc.mem.2 (.inr (.inl e)))
 · rcases hat with e2 | e2; exact .inl (QLoc.mem.2 (.inr (.inr (by rw [← e2]; exact e)))); have e3 : v2.ownBlock = some k := e; rw [e2] at e3; injection e3 with e3; exact .inr (by have := hb.size; omega)
theorem send_of (q : QLoc) (r : SRes) (f : SMsg) (w : World) (h : ResAt q r w) (hl : r.ms.length ≤ 1000) :
    Calls Tryz.prog 127 #[.pointer (some ⟨q.rb, 0, none⟩), msgV f] w fun e w' => e = .returned (.tuple #[]) ∧ QGoes q { r with ms := r.ms ++ [f] } w w' := by
 obtain ⟨i0, ei, ez, es, eb⟩ := info_parts infoMsg
 have hrb := h.blk.lt
 obtain ⟨n, hn⟩ : ∃ n, n = r.ms.length := ⟨_, rfl⟩
 have HE := qq (fun W w2 v2 (h2 : Below w.heap.size w W) (h3 : W.grownBy w2 q.mv.ownBlock) (h4 : w2.ownsRow 0 81 9 v2 (n + 1) (msgsL r.ms ++ msgL f)) h5 => q_ms (f := f) h h2 h3 (by rw [← hn]; exact h4) h5)
 obtain ⟨a, cap, hv⟩ := row_slice h.ms
 have HO := qq (fun W (hW : Below w.heap.size w W) => (show W.ownsRow 0 81 9 q.mv n (msgsL r.ms) by rw [hn]; exact row_heap h.ms (fun k hk => hW.block k (h.ms.lt k hk).2)))
 rw [← hn] at hv hl
 have HV := qq hv
 have HQ := qq (fun W (hW : Below w.heap.size w W) => (show W.cell? ⟨q.rb, 1, none⟩ = some (.slice a n cap) by rw [← hv]; exact (h.blk.below hW).cell 1))
 have HN := qq h.n2
 have HF := qq (fun W (hW : Below w.heap.size w W) => (h.blk.below hW).free 1)
 have c0 := HQ.out w (Below.refl _ _)
 have hfr := h.blk.free
 obtain ⟨rb, fv, mv⟩ := q
 dsimp only at *
 obtain ⟨k, fr, tQ, an, aq, rg, pt, pr, co⟩ := f
 dsimp only [msgV, msgA] at *
 clear h hn hfr hv
 go_enter Tryz.func127, Tryz.ntmps127
 go_wp2_with fail
 go_region_law (refine step_app rfl (.tmp 8) (.tmp 10) 85 rfl 0 81 i0 (.agg #[.int .i64 0, .int .i64 0, .int .i64 0, .int .i64 0, .int .i64 0, .int .i64 0, .int .i64 0, .int .i64 0, .int .i64 0]) 9 72 Tryz.underlying85 ei ez es eb rfl (by decide) (.slice a n cap) n (msgsL r.ms) (by rfl) (by rw [← HV.out]; exact HO.out _ (by go_grown)) ⟨w.heap.size + 1, 0, none⟩ 1 1 (msgL ⟨k, fr, tQ, an, aq, rg, pt, pr, co⟩) (by rfl) rfl (lit_cells (by first | exact (Blk.fresh _ _ _ _ (by simp)).drew | exact Blk.fresh _ _ _ _ (by simp))) (msgL_one _) (by unfold maxLen; omega) (by omega) (Nat.zero_le _) ?_; intro v2 w2 hown2 hgrow2 hat2; rw [← HV.out] at hgrow2 hat2; have s2 : w2.cell? ⟨rb, 1, none⟩ = some (.slice a n cap) := hgrow2.cell (HQ.out _ (by go_grown)) (fun e => HN.out e.symm); have f2 : w2.frozen? ⟨rb, 1, none⟩ = false := (World.frozen?_of_block (a := ⟨rb, 1, none⟩) (hgrow2.block _ (World.block_lt_of_cell? _ _ (HQ.out _ (by go_grown))) (fun e => HN.out e.symm))).trans (HF.out _ (by go_grown)); have HZ := qq (HE.out _ w2 v2 (by go_grown) hgrow2 hown2 hat2); obtain ⟨a2, c2, rfl⟩ := row_slice hown2; clear hown2 hgrow2 hat2)
 all_goals go_wp2_with fail
 all_goals exact bodyPost_end (results_none rfl _ _ _) rfl ⟨rfl, HZ.out⟩
theorem pfind_any (L : SLoc) (S : Sto) (pt : Int) (p : SPart) (b : Bool) (w : World) (h : StoreAt L S w) (hP : ∀ W, Below w.heap.size w W → Calls Tryz.prog 33 #[.pointer (some ⟨L.sb, 0, none⟩), .int .i64 pt] W (Makes (.tuple #[.agg (partA p), .bool b]) W)) : Calls Tryz.prog 121 #[.pointer (some ⟨L.sb, 0, none⟩), .int .i64 pt] w (Makes (.tuple #[oneV p S.node pt, .bool b]) w) := by
 have HN := qq (fun W (hW : Below w.heap.size w W) => node_of L S W (h.below hW))
 have HP := qq hP
 generalize S.node = node at *
 obtain ⟨an, aq, rg, ⟨sp, sd, ss, sh⟩⟩ := p
 dsimp only [partA, oneV] at *
 clear hP h
 go_enter Tryz.func121, Tryz.ntmps121
 go_wp2_with fail
 (with_reducible refine (HP.out _ (by go_grown)).mono ?_)
 rintro e w1 ⟨rfl, hb1⟩
 have B1 : Below w.heap.size w w1 := below_then (by go_grown) hb1
 go_wp2_with fail
 have HV := qq ((Blk.fresh w #[.int .i64 0, .int .i64 0, .int .i64 0, .int .i64 0, .int .i64 0, .int .i64 0, .int .i64 0, .int .i64 0, .int .i64 0] 205 _ rfl).below hb1)
 have hlt := HV.out.lt
 obtain ⟨qv, fv⟩ := HV.out.out
 have BN : Below w.heap.size w (World.drew (w1.alloc (.cells #[.int .i64 an, .int .i64 aq, .int .i64 rg, .int .i64 sp, .int .i64 sd, .int .i64 ss, .int .i64 sh] 61))) := (B1.alloc B1.size _).drew
 have HT : Hid ((World.drew (w1.alloc (.cells #[.int .i64 an, .int .i64 aq, .int .i64 rg, .int .i64 sp, .int .i64 sd, .int .i64 ss, .int .i64 sh] 61))).heap[w.heap.size]? = some (.cells #[.int .i64 0, .int .i64 0, .int .i64 0, .int .i64 0, .int .i64 0, .int .i64 0, .int .i64 0, .int .i64 0, .int .i64 0] 205 (0, 0))) := qq ((((Below.refl w1.heap.size w1).alloc (Nat.le_refl _) (.cells #[.int .i64 an, .int .i64 aq, .int .i64 rg, .int .i64 sp, .int .i64 sd, .int .i64 ss, .int .i64 sh] 61)).drew.block _ hlt).trans ((hb1.block _ (by simp)).trans (heap_alloc_new _ _)))
 have HP1 := qq ((Blk.fresh w1 #[.int .i64 an, .int .i64 aq, .int .i64 rg, .int .i64 sp, .int .i64 sd, .int .i64 ss, .int .i64 sh] 61 _ rfl).drew)
 have HB := qq BN
 clear qv fv hb1 BN
 refine wp_region_held_drew (S := fun w' => Blk w' w1.heap.size #[.int .i64 an, .int .i64 aq, .int .i64 rg, .int .i64 sp, .int .i64 sd, .int .i64 ss, .int .i64 sh]) (by kernel_rfl) HP1.out (fun hHeld => ?_)
 generalize (World.drew (w1.alloc (.cells #[.int .i64 an, .int .i64 aq, .int .i64 rg, .int .i64 sp, .int .i64 sd, .int .i64 ss, .int .i64 sh] 61))) = w5 at *
 refine takeU (d := some 14) 0 rfl rfl hHeld (fun w' hS' => by have qS := hS'.cell; clear hS'; go_simp; (try rfl)) ?_
 simp only [puts]
 refine takeU (d := some 15) 1 rfl rfl hHeld (fun w' hS' => by have qS := hS'.cell; clear hS'; go_simp; (try rfl)) ?_
 simp only [puts]
 refine takeU (d := some 17) 3 rfl rfl hHeld (fun w' hS' => by have qS := hS'.cell; clear hS'; go_simp; (try rfl)) ?_
 simp only [puts]
 refine takeU (d := some 19) 5 rfl rfl hHeld (fun w' hS' => by have qS := hS'.cell; clear hS'; go_simp; (try rfl)) ?_
 simp only [puts]
 refine wpAnyH_call (d := some 16) 2 94 _ _ [.pointer (some ⟨L.sb, 0, none⟩)] rfl rfl (by kernel_rfl) rfl (enters_of Tryz.func94 (by kernel_rfl) rfl) (by rfl) (by rfl) ?_
 refine (HN.out _ HB.out).mono ?_; rintro e w5 ⟨rfl, rfl⟩
 refine ⟨_, rfl, _, fun _ h => h, hHeld, fun hHeld => ?_⟩
 simp only [Act.put, puts]
 refine takeU (d := some 18) 4 rfl rfl hHeld (fun w' hS' => by have qS := hS'.cell; clear hS'; go_simp; (try rfl)) ?_
 simp only [puts]
 refine wpAnyH_all (rs := [6]) (by kernel_rfl) (by simp) (fun j hj => ?_)
 obtain rfl : j = 6 := by simpa using hj
 refine wpOp_step rfl (fun K' hK => ?_)
 rw [if_pos (by rfl)]
 refine wp_store_row 205 (.tmp 4) (.tmp 18) rfl w.heap.size #[.int .i64 an, .int .i64 aq, .int .i64 rg, .int .i64 sp, .int .i64 sd, .int .i64 ss, .int .i64 sh, .int .i64 node, .int .i64 pt] rfl rfl 205 #[.int .i64 0, .int .i64 0, .int .i64 0, .int .i64 0, .int .i64 0, .int .i64 0, .int .i64 0, .int .i64 0, .int .i64 0] HT.out (by kernel_rfl) rfl (by simp [Value.oneCell']) ?_
 obtain ⟨HFr, hgr⟩ := row_end (cells := #[.int .i64 an, .int .i64 aq, .int .i64 rg, .int .i64 sp, .int .i64 sd, .int .i64 ss, .int .i64 sh, .int .i64 node, .int .i64 pt]) HT.out
 have hK2 := hHeld.heap' hgr.size (hgr.block _ hHeld.lt (fun e => by injection e with e; omega))
 have hB2 := qq (HB.out.grown hgr HB.out.size (fun k hk => by injection hk with hk; omega))
 have hHeld := (hK2 : (fun w' : World => Blk w' w1.heap.size #[.int .i64 an, .int .i64 aq, .int .i64 rg, .int .i64 sp, .int .i64 sd, .int .i64 ss, .int .i64 sh]) (w5.setRow w.heap.size #[.int .i64 an, .int .i64 aq, .int .i64 rg, .int .i64 sp, .int .i64 sd, .int .i64 ss, .int .i64 sh, .int .i64 node, .int .i64 pt]))
 refine hK _ _ ⟨hHeld, ?_⟩
 simp only [Act.put, puts]
 clear hK hK2
 obtain ⟨q1, f1⟩ := HFr.out
 generalize w5.setRow w.heap.size #[.int .i64 an, .int .i64 aq, .int .i64 rg, .int .i64 sp, .int .i64 sd, .int .i64 ss, .int .i64 sh, .int .i64 node, .int .i64 pt] = w6 at *
 refine takeU (d := some 5) 7 rfl rfl hHeld (fun w' hS' => by have qS := hS'.cell; clear hS'; go_simp; (try rfl)) ?_
 simp only [puts]
 refine wpAnyH_done (by kernel_rfl) ?_ _
 clear hHeld
 go_wp2_with fail
 exact bodyPost_ret (v := .tuple #[.agg #[.int .i64 an, .int .i64 aq, .int .i64 rg, .int .i64 sp, .int .i64 sd, .int .i64 ss, .int .i64 sh, .int .i64 node, .int .i64 pt], .bool b]) (by simp [results, Tryz.results121, go_sem, q1, f1]) rfl ⟨by simp, hB2.out⟩
theorem fr_start {bs : List (Nat × Array Value)} {w W : World} (hb : Below w.heap.size w W) (hbl : ∀ x ∈ bs, Blk W x.1 x.2) (hn : (bs.map Prod.fst).Nodup) (T : TypeId) : FrAt bs ⟨W.heap.size, .slice none 0 0, .slice none 0 0⟩ ⟨[], [], 0⟩ w (W.alloc (.cells #[.slice none 0 0, .slice none 0 0, .int .i64 0] T)) := by
 refine ⟨fun x hx => (hbl x hx).alloc _, fun x hx h => ?_, hn, res_fresh W 0 T, fun k hk => ?_, hb.alloc hb.size _⟩
 · have := (hbl x hx).lt
   rcases QLoc.mem.1 h with e | e | e
   · simp at e; omega
   · simp [Value.ownBlock] at e
   · simp [Value.ownBlock] at e
 · have := hb.size
   rcases QLoc.mem.1 hk with e | e | e
   · simp at e; omega
   · simp [Value.ownBlock] at e
   · simp [Value.ownBlock] at e
theorem FrAt.push {bs : List (Nat × Array Value)} {Q : QLoc} {r : SRes} {w w1 : World} (h : FrAt bs Q r w w1) (C : Array Value) (T : TypeId) : FrAt ((w1.heap.size, C) :: bs) Q r w (w1.alloc (.cells C T)) := by
 have hb : Below w1.heap.size w1 (w1.alloc (.cells C T)) := (Below.refl _ _).alloc (Nat.le_refl _) _
 have h2 := h.below hb
 refine ⟨fun x hx => ?_, fun x hx hk => ?_, ?_, h2.q, h2.nf, h2.be⟩
 · rcases List.mem_cons.1 hx with rfl | hx
   · exact Blk.fresh w1 C T _ rfl
   · exact h2.bl x hx
 · rcases List.mem_cons.1 hx with rfl | hx
   · have := h.q.lt _ hk; dsimp only at this; omega
   · exact h2.ap x hx hk
 · rw [List.map_cons, List.nodup_cons]
   refine ⟨fun hm => ?_, h.nd⟩
   obtain ⟨x, hx, he⟩ := List.mem_map.1 hm
   have := (h.bl x hx).lt
   dsimp only at he
   omega
def ResEnds (r : SRes) (w : World) (e : Ending) (w' : World) : Prop := ∃ fv mv, e = .returned (.agg #[fv, mv, .int .i64 r.wk]) ∧ w'.ownsRow w.heap.size 39 14 fv r.fs.length (factsL r.fs) ∧ w'.ownsRow w.heap.size 81 9 mv r.ms.length (msgsL r.ms) ∧ Below w.heap.size w w'
theorem FrAt.ends {bs : List (Nat × Array Value)} {Q : QLoc} {r : SRes} {w w1 : World} {b : Nat} {C : Array Value} (h : FrAt bs Q r w w1) (hm : (b, C) ∈ bs) (hb : w.heap.size ≤ b) (x y z : Value) :
    (((w1.setCell ⟨b, 0, none⟩ x).setCell ⟨b, 1, none⟩ y).setCell ⟨b, 2, none⟩ z).ownsRow w.heap.size 39 14 Q.fv r.fs.length (factsL r.fs) ∧ (((w1.setCell ⟨b, 0, none⟩ x).setCell ⟨b, 1, none⟩ y).setCell ⟨b, 2, none⟩ z).ownsRow w.heap.size 81 9 Q.mv r.ms.length (msgsL r.ms) ∧ Below w.heap.size w (((w1.setCell ⟨b, 0, none⟩ x).setCell ⟨b, 1, none⟩ y).setCell ⟨b, 2, none⟩ z) :=
 h.out (fun k hk => by
   have hk' : k ≠ b := fun e => h.ap _ hm (e ▸ hk)
   rw [Below.heap_setCell _ _ _ _ hk', Below.heap_setCell _ _ _ _ hk', Below.heap_setCell _ _ _ _ hk']) (((h.be.setCell (p := ⟨b, 0, none⟩) hb _).setCell (p := ⟨b, 1, none⟩) hb _).setCell (p := ⟨b, 2, none⟩) hb _)
theorem ends_call {fs : List SFact} {ms : List SMsg} {w W w2 : World} {fv mv : Value} {b : Nat} (hb : Below w.heap.size w W) (h1 : w2.ownsRow W.heap.size 39 14 fv fs.length (factsL fs)) (h2 : w2.ownsRow W.heap.size 81 9 mv ms.length (msgsL ms)) (h3 : Below W.heap.size W w2) (hbl : w.heap.size ≤ b) (hlt : b < W.heap.size) (x y z : Value) :
    (((w2.setCell ⟨b, 0, none⟩ x).setCell ⟨b, 1, none⟩ y).setCell ⟨b, 2, none⟩ z).ownsRow w.heap.size 39 14 fv fs.length (factsL fs) ∧ (((w2.setCell ⟨b, 0, none⟩ x).setCell ⟨b, 1, none⟩ y).setCell ⟨b, 2, none⟩ z).ownsRow w.heap.size 81 9 mv ms.length (msgsL ms) ∧ Below w.heap.size w (((w2.setCell ⟨b, 0, none⟩ x).setCell ⟨b, 1, none⟩ y).setCell ⟨b, 2, none⟩ z) := by
 have hset : ∀ k, k ≠ b → (((w2.setCell ⟨b, 0, none⟩ x).setCell ⟨b, 1, none⟩ y).setCell ⟨b, 2, none⟩ z).heap[k]? = w2.heap[k]? := fun k hk => by
  rw [Below.heap_setCell _ _ _ _ hk, Below.heap_setCell _ _ _ _ hk, Below.heap_setCell _ _ _ _ hk]
 refine ⟨row_base (row_heap h1 (fun k hk => hset k (fun e => by have := (h1.lt k hk).1; omega))) hb.size, row_base (row_heap h2 (fun k hk => hset k (fun e => by have := (h2.lt k hk).1; omega))) hb.size, (((below_then hb h3).setCell (p := ⟨b, 0, none⟩) hbl _).setCell (p := ⟨b, 1, none⟩) hbl _).setCell (p := ⟨b, 2, none⟩) hbl _⟩
theorem row_form3 {w : World} {B : Nat} {e : TypeId} {size : Nat} {v : Value} {n : Nat} {xs : List Value} (h : w.ownsRow B e size v n xs) : ∃ a m c, v = .slice a m c := by
 obtain ⟨a, cap, h⟩ := row_slice h
 exact ⟨a, n, cap, h⟩
theorem down_1100 (p : SPart) (nd pt : Int) (m : SMsg) (x : Eff) (w : World) (hp : 0 ≤ p.rg) (hT : ∀ W, Below w.heap.size w W → Calls Tryz.prog 219 #[seatV p.seat, .int .i64 m.k] W (Makes (.tuple #[effV x, .nilIface]) W)) (hc : x.ch = true) (hs : x.send = 0) (hf : x.fault = 0) :
    Calls Tryz.prog 131 #[oneV p nd pt, msgV m] w (ResEnds ⟨[fTurn pt x.seat.s x.seat.h], [], x.work⟩ w) := by
 have HT := qq hT
 have hP := fun W => placed_of p nd pt W
 rw [decide_eq_true hp] at hP
 have HPl := qq hP
 have HTu := qq (fun W => pturned_of (p : SPart) nd pt x.seat W)
 have HRt := qq (fun Q r W h hl => remember_of Q r (fTurn pt x.seat.s x.seat.h) W h hl)
 obtain ⟨an, aq, rg, ⟨sp, sd, ss, sh⟩⟩ := p
 obtain ⟨mk, fr, tQ, man, maq, mrg, mpt, mpr, mco⟩ := m
 obtain ⟨⟨xp, xd, xs, xh⟩, send, fault, work, cc⟩ := x
 dsimp only [oneV, msgV, msgA, effV, seatV, factV, factC, fPlace, fTurn, ans, ResEnds] at *
 subst hc
 subst hs
 subst hf
 clear hT hP hp
 go_enter Tryz.func131, Tryz.ntmps131
 go_wp2_with fail
 refine (HPl.out _).mono ?_
 rintro e w1 ⟨rfl, hb1⟩
 have HF := qq ((fr_start (bs := [(w.heap.size, #[.int .i64 an, .int .i64 aq, .int .i64 rg, .int .i64 sp, .int .i64 sd, .int .i64 ss, .int .i64 sh, .int .i64 nd, .int .i64 pt]), (w.heap.size + 1, #[.int .i64 mk, .int .i64 fr, .int .i64 tQ, .int .i64 man, .int .i64 maq, .int .i64 mrg, .int .i64 mpt, .int .i64 mpr, .int .i64 mco]), (w.heap.size + 1 + 1, #[.slice none 0 0, .slice none 0 0, .int .i64 0])]) (w := w) (W := ((w.alloc (.cells #[.int .i64 an, .int .i64 aq, .int .i64 rg, .int .i64 sp, .int .i64 sd, .int .i64 ss, .int .i64 sh, .int .i64 nd, .int .i64 pt] 205)).alloc (.cells #[.int .i64 mk, .int .i64 fr, .int .i64 tQ, .int .i64 man, .int .i64 maq, .int .i64 mrg, .int .i64 mpt, .int .i64 mpr, .int .i64 mco] 81)).alloc (.cells #[.slice none 0 0, .slice none 0 0, .int .i64 0] 87)) (by go_grown) (by
   intro y hy
   simp only [List.mem_cons, List.not_mem_nil, or_false] at hy
   rcases hy with rfl | rfl | rfl
   · exact ((Blk.fresh w _ _ _ rfl).alloc _).alloc _
   · exact (Blk.fresh _ _ _ _ (by simp)).alloc _
   · exact Blk.fresh _ _ _ _ (by simp)) (by simp; omega) 87).below hb1)
 clear hb1
 rw [show (((w.alloc (.cells #[.int .i64 an, .int .i64 aq, .int .i64 rg, .int .i64 sp, .int .i64 sd, .int .i64 ss, .int .i64 sh, .int .i64 nd, .int .i64 pt] 205)).alloc (.cells #[.int .i64 mk, .int .i64 fr, .int .i64 tQ, .int .i64 man, .int .i64 maq, .int .i64 mrg, .int .i64 mpt, .int .i64 mpr, .int .i64 mco] 81)).alloc (.cells #[.slice none 0 0, .slice none 0 0, .int .i64 0] 87)).heap.size = w.heap.size + 1 + 1 + 1 by simp] at HF
 have hlt := HF.out.lt
 dsimp only at hlt
 have l0 : w.heap.size < w1.heap.size := by omega
 have l1 : w.heap.size + 1 < w1.heap.size := by omega
 have l2 : w.heap.size + 1 + 1 < w1.heap.size := by omega
 have l3 : w.heap.size + 1 + 1 + 1 < w1.heap.size := by omega
 have qp := (HF.out.bl _ (.head _)).cell; have fp := (HF.out.bl _ (.head _)).free; have qm := (HF.out.bl _ (.tail _ (.head _))).cell
 dsimp only at qp fp qm
 go_wp2_with fail
 clear hlt qp fp qm l0 l1 l2 l3
 refine (HT.out _ HF.out.be).mono ?_
 rintro e w2 ⟨rfl, hb2⟩
 have HF := qq (HF.out.below hb2)
 clear hb2
 have hlt := HF.out.lt
 dsimp only at hlt
 have l0 : w.heap.size < w2.heap.size := by omega
 have l1 : w.heap.size + 1 < w2.heap.size := by omega
 have l2 : w.heap.size + 1 + 1 < w2.heap.size := by omega
 have l3 : w.heap.size + 1 + 1 + 1 < w2.heap.size := by omega
 have qp := (HF.out.bl _ (.head _)).cell; have fp := (HF.out.bl _ (.head _)).free; have qm := (HF.out.bl _ (.tail _ (.head _))).cell
 dsimp only at qp fp qm
 go_wp2_with fail
 clear hlt qp fp qm l0 l1 l2 l3
 have HF := qq (HF.out.push #[.int .i64 xp, .int .i64 xd, .int .i64 xs, .int .i64 xh, .int .i64 0, .int .i64 0, .int .i64 work, .bool true] 224)
 refine (HTu.out _).mono ?_
 rintro e w3 ⟨rfl, hb3⟩
 have HF := qq (HF.out.below hb3)
 clear hb3
 have hlt := HF.out.lt
 dsimp only at hlt
 have l0 : w.heap.size < w3.heap.size := by omega
 have l1 : w.heap.size + 1 < w3.heap.size := by omega
 have l2 : w.heap.size + 1 + 1 < w3.heap.size := by omega
 have l3 : w.heap.size + 1 + 1 + 1 < w3.heap.size := by omega
 have qp := (HF.out.bl _ (.tail _ (.head _))).cell; have fp := (HF.out.bl _ (.tail _ (.head _))).free; have qm := (HF.out.bl _ (.tail _ (.tail _ (.head _)))).cell
 dsimp only at qp fp qm
 have qe := (HF.out.bl (w2.heap.size, #[.int .i64 xp, .int .i64 xd, .int .i64 xs, .int .i64 xh, .int .i64 0, .int .i64 0, .int .i64 work, .bool true]) (by simp)).cell
 have he1 := (HF.out.bl (w2.heap.size, #[.int .i64 xp, .int .i64 xd, .int .i64 xs, .int .i64 xh, .int .i64 0, .int .i64 0, .int .i64 work, .bool true]) (by simp)).lt
 dsimp only at qe he1
 go_wp2_with fail
 clear hlt qp fp qm l0 l1 l2 l3 qe he1
 refine (HRt.out _ _ _ HF.out.q (by simp)).mono ?_
 rintro e w4 ⟨rfl, hs4⟩
 obtain ⟨fv4, mv4, hF4⟩ := HF.out.goes hs4
 have HF := qq hF4
 clear hs4 hF4
 obtain ⟨af, lf, cf, hfv⟩ := row_form3 HF.out.q.fs
 obtain ⟨am, lm, cm, hmv⟩ := row_form3 HF.out.q.ms
 dsimp only at hfv hmv
 subst hfv hmv
 have hlt := HF.out.lt
 dsimp only at hlt
 have l0 : w.heap.size < w4.heap.size := by omega
 have l1 : w.heap.size + 1 < w4.heap.size := by omega
 have l2 : w.heap.size + 1 + 1 < w4.heap.size := by omega
 have l3 : w.heap.size + 1 + 1 + 1 < w4.heap.size := by omega
 have qp := (HF.out.bl _ (.tail _ (.head _))).cell; have fp := (HF.out.bl _ (.tail _ (.head _))).free; have qm := (HF.out.bl _ (.tail _ (.tail _ (.head _)))).cell
 dsimp only at qp fp qm
 have qe := (HF.out.bl (w2.heap.size, #[.int .i64 xp, .int .i64 xd, .int .i64 xs, .int .i64 xh, .int .i64 0, .int .i64 0, .int .i64 work, .bool true]) (by simp)).cell
 have he1 := (HF.out.bl (w2.heap.size, #[.int .i64 xp, .int .i64 xd, .int .i64 xs, .int .i64 xh, .int .i64 0, .int .i64 0, .int .i64 work, .bool true]) (by simp)).lt
 dsimp only at qe he1
 have q0 := HF.out.q.blk.cell; have f0 := HF.out.q.blk.free
 have qv := (HF.out.bl _ (.tail _ (.tail _ (.tail _ (.head _))))).cell; have fv := (HF.out.bl _ (.tail _ (.tail _ (.tail _ (.head _))))).free
 dsimp only at q0 f0 qv fv
 go_wp2_with fail
 refine bodyPost_ret (v := .agg #[.slice af lf cf, .slice am lm cm, .int .i64 work]) (by simp [results, Tryz.results131, go_sem, qv, fv, l2, Nat.ne_of_lt l2]) rfl ⟨_, _, rfl, ?_⟩
 exact (HF.out.wk work).ends (b := w.heap.size + 1 + 1) (C := #[.slice none 0 0, .slice none 0 0, .int .i64 0]) (by simp) (by omega) _ _ _
theorem tell_tt_dn (sb : Value) (p : SPart) (nd : Int) (m : SMsg) (w : World) (hFd : ∀ W, Below w.heap.size w W → Calls Tryz.prog 121 #[sb, .int .i64 m.pt] W (Makes (.tuple #[oneV p nd m.pt, .bool true]) W)) (hft : fitsB p nd m = true) (r : SRes) (h18 : m.k ≠ 18) (h19 : m.k ≠ 19) (h15 : m.k ≠ 15) (hd : isDown m.k = true) (hD : ∀ W, Below w.heap.size w W → Calls Tryz.prog 131 #[oneV p nd m.pt, msgV m] W (ResEnds r W)) :
    Calls Tryz.prog 39 #[sb, msgV m] w (ResEnds r w) := by
 have HFd := qq hFd
 have hFt := fun W => fits_of p nd m.pt m W
 rw [hft] at hFt
 have HFt := qq hFt
 have HDo := qq hD
 have hDn := fun W => down_of m.k W
 rw [hd] at hDn
 have HDn := qq hDn
 clear hDn hd
 obtain ⟨an, aq, rg, ⟨sp, sd, ss, sh⟩⟩ := p
 obtain ⟨mk, fr, tQ, man, maq, mrg, mpt, mpr, mco⟩ := m
 dsimp only [oneV, msgV, msgA, seatV, factV, factC, fPlace, fTurn, ans, ResEnds] at *
 skip
 clear hD
 have e18 : (mk == 18) = false := by simpa using h18
 have e19 : (mk == 19) = false := by simpa using h19
 have e15 : (mk == 15) = false := by simpa using h15
 clear h18 h19 h15
 clear hFd hFt hft
 go_enter Tryz.func39, Tryz.ntmps39
 go_wp2_with fail
 refine (HFd.out _ (by go_grown)).mono ?_
 rintro e w1 ⟨rfl, hb1⟩
 have B1 : Below w.heap.size w w1 := below_then (by go_grown) hb1
 have HM := qq (((Blk.fresh w #[.int .i64 mk, .int .i64 fr, .int .i64 tQ, .int .i64 man, .int .i64 maq, .int .i64 mrg, .int .i64 mpt, .int .i64 mpr, .int .i64 mco] 81 _ rfl).alloc (.cells #[.slice none 0 0, .slice none 0 0, .int .i64 0] 87)).below hb1)
 have HV := qq ((Blk.fresh (w.alloc (.cells #[.int .i64 mk, .int .i64 fr, .int .i64 tQ, .int .i64 man, .int .i64 maq, .int .i64 mrg, .int .i64 mpt, .int .i64 mpr, .int .i64 mco] 81)) #[.slice none 0 0, .slice none 0 0, .int .i64 0] 87 (w.heap.size + 1) (by simp)).below hb1)
 have lm := HM.out.lt
 have lv := HV.out.lt
 have qm := HM.out.cell
 go_wp2_with fail
 clear qm
 refine (HFt.out _).mono ?_
 rintro e w2 ⟨rfl, hb2⟩
 have lp : w1.heap.size < w2.heap.size := by have := hb2.size; simp only [World.size_alloc] at this; omega
 have B2 : Below w.heap.size w w2 := below_then B1 (below_then (by go_grown) hb2)
 have HF := qq (fr_start (bs := [(w1.heap.size, #[.int .i64 an, .int .i64 aq, .int .i64 rg, .int .i64 sp, .int .i64 sd, .int .i64 ss, .int .i64 sh, .int .i64 nd, .int .i64 mpt]), (w.heap.size, #[.int .i64 mk, .int .i64 fr, .int .i64 tQ, .int .i64 man, .int .i64 maq, .int .i64 mrg, .int .i64 mpt, .int .i64 mpr, .int .i64 mco]), (w.heap.size + 1, #[.slice none 0 0, .slice none 0 0, .int .i64 0])]) (w := w) (W := w2) B2 (by
   intro y hy
   simp only [List.mem_cons, List.not_mem_nil, or_false] at hy
   rcases hy with rfl | rfl | rfl
   · exact (Blk.fresh w1 _ _ _ rfl).below hb2
   · exact (HM.out.alloc _).below hb2
   · exact (HV.out.alloc _).below hb2) (by simp; omega) 87)
 have HM2 := qq ((HM.out.alloc (.cells #[.int .i64 an, .int .i64 aq, .int .i64 rg, .int .i64 sp, .int .i64 sd, .int .i64 ss, .int .i64 sh, .int .i64 nd, .int .i64 mpt] 205)).below hb2)
 have HV2 := qq ((HV.out.alloc (.cells #[.int .i64 an, .int .i64 aq, .int .i64 rg, .int .i64 sp, .int .i64 sd, .int .i64 ss, .int .i64 sh, .int .i64 nd, .int .i64 mpt] 205)).below hb2)
 have HP2 := qq ((Blk.fresh w1 #[.int .i64 an, .int .i64 aq, .int .i64 rg, .int .i64 sp, .int .i64 sd, .int .i64 ss, .int .i64 sh, .int .i64 nd, .int .i64 mpt] 205 _ rfl).below hb2)
 have lm2 : w.heap.size + 1 < w2.heap.size := by omega
 have lm3 : w.heap.size < w2.heap.size := by omega
 clear hb2
 have qm := HM2.out.cell
 have qp := HP2.out.cell
 go_wp2_with fail
 clear qm qp
 clear hb1
 refine (HDn.out _).mono ?_
 rintro e w3 ⟨rfl, rfl⟩
 have qm := HM2.out.cell; have qv := HV2.out.cell; have fv := HV2.out.free
 have qp := HP2.out.cell
 go_wp2_with fail
 clear qm qv fv qp
 refine (HDn.out _).mono ?_
 rintro e w4 ⟨rfl, rfl⟩
 have qm := HM2.out.cell; have qv := HV2.out.cell; have fv := HV2.out.free
 have qp := HP2.out.cell
 go_wp2_with fail
 clear qm qv fv qp
 refine (HDo.out _ HF.out.be).mono ?_
 rintro e w5 ⟨fvR, mvR, rfl, ho1, ho2, hbR⟩
 have HE := qq (ends_call (b := w.heap.size + 1) HF.out.be ho1 ho2 hbR (by omega) (HF.out.bl _ (.tail _ (.tail _ (.head _)))).lt)
 have qv := ((HF.out.bl _ (.tail _ (.tail _ (.head _)))).below hbR).cell; have fv := ((HF.out.bl _ (.tail _ (.tail _ (.head _)))).below hbR).free
 have lv2 := ((HF.out.bl _ (.tail _ (.tail _ (.head _)))).below hbR).lt
 dsimp only at qv fv lv2
 obtain ⟨af, lf, cf, hfv⟩ := row_form3 ho1
 obtain ⟨am, lm', cm, hmv⟩ := row_form3 ho2
 subst hfv hmv
 clear ho1 ho2 hbR
 go_wp2_with fail
 refine bodyPost_ret (v := .agg #[.slice af lf cf, .slice am lm' cm, .int .i64 r.wk]) (by simp [results, Tryz.results39, go_sem, qv, fv]) rfl ⟨_, _, rfl, ?_⟩
 exact HE.out _ _ _
theorem none_of_side {p d : Int} (h : rSide p d = false) : tabOf p d = none := by
 cases ht : tabOf p d with
 | none => rfl
 | some t => rw [tabOf_some ht] at h; cases h
theorem states_no (p d : Int) (a : Addr) (w : World) (he : ErrIs w 13 a) (h : rSide p d = false) :
    Calls Tryz.prog 220 #[.int .i64 p, .int .i64 d] w (Makes (.tuple #[.slice none 0 0, errV a]) w) := by
 have HN := qq (none_of_side h); clear h
 have HE := qq he; clear he
 go_enter Tryz.func220, Tryz.ntmps220
 go_wp2_with (first
   | (go_at_call 245; refine (of_no p d a _ ?_ HN.out).mono ?_; exact HE.out.below (by go_grown); rintro e w1 ⟨rfl, hb1⟩; have hz1 := hb1.size; (try simp only [World.size_alloc] at hz1); have B1 : Below w.heap.size w w1 := below_then (by go_grown) hb1))
 go_ret2
 exact ⟨rfl, by go_grown⟩
theorem rnopart7 (R : RLoc) (S : Sto) (f : SFact) (w : World) (hx : F64 f.ex) (h : RStoreAt R S w) (hok : fok f = true) (hk : f.k = 7) (hi : (S.parts.length : Int) ≤ f.pt) :
    Calls Tryz.prog 22 #[.pointer (some ⟨R.sb, 0, none⟩), factV f] w (RApplyEnds R S 9 w) := by
 have hR := fun W => rright14_of f hx W
 rw [hok] at hR
 obtain ⟨a, cap, hv, hn, hr⟩ := part_row h.parts
 have HR := qq hR; have H := qq h
 have hsb := h.blk.lt
 obtain ⟨n, hnn⟩ : ∃ n, n = S.parts.length := ⟨_, rfl⟩
 rw [← hnn] at hv hi
 have HQ := qq (fun W (hW : RStoreAt R S W) => (show W.cell? ⟨R.sb, 3, none⟩ = some (.slice a n cap) by rw [← hv]; exact hW.blk.cell 3))
 obtain ⟨k, an, aq, rg, nd, pt, pr, oc, dp, pa, st, hw, de, ex⟩ := f
 dsimp only at hi hk
 subst hk
 dsimp only [factV, factC] at *
 clear hR h hok hx hnn hn hr hv
 go_enter Tryz.func22, Tryz.ntmps22
 go_wp2_with fail
 (with_reducible refine (HR.out _).mono ?_)
 rintro e w1 ⟨rfl, hb1⟩
 have B1 : Below w.heap.size w w1 := below_then (by go_grown) hb1
 have HK1 := qq ((Blk.fresh w #[.int .i64 7, .int .i64 an, .int .i64 aq, .int .i64 rg, .int .i64 nd, .int .i64 pt, .int .i64 pr, .int .i64 oc, .int .i64 dp, .int .i64 pa, .int .i64 st, .int .i64 hw, .int .i64 de, .float .f64 ex] 42 _ rfl).below hb1)
 have hz1 := hb1.size
 simp only [World.size_alloc] at hz1
 have hs1 : R.sb < w1.heap.size := by omega
 have hs2 : w.heap.size < w1.heap.size := by omega
 obtain ⟨q, qf⟩ := HK1.out.out
 have c3 := HQ.out _ (H.out.below B1)
 have hi3 : decide ((n : Int) ≤ pt) = true := decide_eq_true hi
 go_wp2_with fail
 go_region
 all_goals go_wp2_with fail
 all_goals go_ret
 all_goals exact ⟨rfl, RGoes.same H.out (below_then B1 (by go_grown))⟩
theorem rpart7_yes (R : RLoc) (S : Sto) (f : SFact) (i : Nat) (p : SPart) (w : World) (hx : F64 f.ex) (h : RStoreAt R S w) (hok : fok f = true) (hk : f.k = 7) (hi : f.pt = (i : Int)) (hp : S.parts[i]? = some p) (hr7 : p.rg = -1) :
    Calls Tryz.prog 22 #[.pointer (some ⟨R.sb, 0, none⟩), factV f] w (RApplyEnds R { S with parts := S.parts.set i { p with rg := f.rg } } 0 w) := by
 have hR := fun W => rright14_of f hx W
 rw [hok] at hR
 obtain ⟨a, cap, hv, hn, hr⟩ := part_row h.parts
 have hil := (List.getElem?_eq_some_iff.1 hp).1
 obtain ⟨g, rfl, hg, hfz, hcell⟩ := hr (by omega)
 have hcl := hcell i p hp
 have HG := qq (fun w2 (hb : Below w.heap.size w w2) => rrg_part_goes h hb hv hp f.rg)
 obtain ⟨n, hnn⟩ : ∃ n, n = S.parts.length := ⟨_, rfl⟩
 rw [← hnn] at hv hil
 have HR := qq hR; have HCL := qq hcl; have HFZ := qq hfz
 have hsb := h.blk.lt
 have HQ := qq (show w.cell? ⟨R.sb, 3, none⟩ = some (.slice (some ⟨g, 0, none⟩) n cap) by rw [← hv]; exact h.blk.cell 3)
 have hi0 : (0 : Int) ≤ (i : Int) := by omega
 have hi1 : (i : Int) < (n : Int) := by omega
 have hi2 : ¬ (n : Int) ≤ (i : Int) := by omega
 have hi3 : decide ((n : Int) ≤ (i : Int)) = false := decide_eq_false hi2
 have hi4 : ¬ n ≤ i := by omega
 have hi5 : decide (n ≤ i) = false := decide_eq_false hi4
 obtain ⟨pan, paq, prg, ⟨sp, sd, ss, sh⟩⟩ := p
 obtain ⟨k, an, aq, rg, nd, pt, pr, oc, dp, pa, st, hw, de, ex⟩ := f
 dsimp only at hi hk
 subst hk
 subst hi
 dsimp only [factV, factC] at *
 subst hr7
 clear hR h hok hx hnn hn hr hv hcl hcell hp hfz
 go_enter Tryz.func22, Tryz.ntmps22
 go_wp2_with fail
 (with_reducible refine (HR.out _).mono ?_)
 rintro e w1 ⟨rfl, hb1⟩
 have B1 : Below w.heap.size w w1 := below_then (by go_grown) hb1
 have HK1 := qq ((Blk.fresh w #[.int .i64 7, .int .i64 an, .int .i64 aq, .int .i64 rg, .int .i64 nd, .int .i64 (i : Int), .int .i64 pr, .int .i64 oc, .int .i64 dp, .int .i64 pa, .int .i64 st, .int .i64 hw, .int .i64 de, .float .f64 ex] 42 _ rfl).below hb1)
 have hz1 := hb1.size
 simp only [World.size_alloc] at hz1
 have hs1 : R.sb < w1.heap.size := by omega
 have hs2 : w.heap.size < w1.heap.size := by omega
 obtain ⟨q, qf⟩ := HK1.out.out
 have hg1 : g < w1.heap.size := by omega
 obtain ⟨pc0, pc1, pc2, pc3, pc4, pc5, pc6⟩ := PartC.below HCL.out B1 hg
 have f1 : ∀ j, w1.frozen? ⟨g, j, none⟩ = false := fun j => (B1.frozen (p := ⟨g, j, none⟩) hg).trans (HFZ.out j)
 have c3 := (B1.cell (p := ⟨R.sb, 3, none⟩) hsb).trans HQ.out
 dsimp only at pc0 pc1 pc2 pc3 pc4 pc5 pc6
 clear pc0 pc1 pc3 pc4 pc5 pc6
 go_wp2_with fail
 go_region
 all_goals go_wp2_with fail
 go_region
 all_goals go_wp2_with fail
 all_goals go_ret
 all_goals exact ⟨rfl, (HG.out _ (below_then B1 (by go_grown))).then_below (by go_grown)⟩
theorem rpart7_no (R : RLoc) (S : Sto) (f : SFact) (i : Nat) (p : SPart) (w : World) (hx : F64 f.ex) (h : RStoreAt R S w) (hok : fok f = true) (hk : f.k = 7) (hi : f.pt = (i : Int)) (hp : S.parts[i]? = some p) (hr7 : 0 ≤ p.rg) :
    Calls Tryz.prog 22 #[.pointer (some ⟨R.sb, 0, none⟩), factV f] w (RApplyEnds R S 9 w) := by
 have hR := fun W => rright14_of f hx W
 rw [hok] at hR
 obtain ⟨a, cap, hv, hn, hr⟩ := part_row h.parts
 have hil := (List.getElem?_eq_some_iff.1 hp).1
 obtain ⟨g, rfl, hg, hfz, hcell⟩ := hr (by omega)
 have hcl := hcell i p hp
 have HG := qq (fun w2 (hb : Below w.heap.size w w2) => RGoes.same h hb)
 obtain ⟨n, hnn⟩ : ∃ n, n = S.parts.length := ⟨_, rfl⟩
 rw [← hnn] at hv hil
 have HR := qq hR; have HCL := qq hcl; have HFZ := qq hfz
 have hsb := h.blk.lt
 have HQ := qq (show w.cell? ⟨R.sb, 3, none⟩ = some (.slice (some ⟨g, 0, none⟩) n cap) by rw [← hv]; exact h.blk.cell 3)
 have hi0 : (0 : Int) ≤ (i : Int) := by omega
 have hi1 : (i : Int) < (n : Int) := by omega
 have hi2 : ¬ (n : Int) ≤ (i : Int) := by omega
 have hi3 : decide ((n : Int) ≤ (i : Int)) = false := decide_eq_false hi2
 have hi4 : ¬ n ≤ i := by omega
 have hi5 : decide (n ≤ i) = false := decide_eq_false hi4
 obtain ⟨pan, paq, prg, ⟨sp, sd, ss, sh⟩⟩ := p
 obtain ⟨k, an, aq, rg, nd, pt, pr, oc, dp, pa, st, hw, de, ex⟩ := f
 dsimp only at hi hk
 subst hk
 subst hi
 dsimp only [factV, factC] at *
 have hr8 : decide ((0 : Int) ≤ prg) = true := decide_eq_true hr7
 clear hR h hok hx hnn hn hr hv hcl hcell hp hfz
 go_enter Tryz.func22, Tryz.ntmps22
 go_wp2_with fail
 (with_reducible refine (HR.out _).mono ?_)
 rintro e w1 ⟨rfl, hb1⟩
 have B1 : Below w.heap.size w w1 := below_then (by go_grown) hb1
 have HK1 := qq ((Blk.fresh w #[.int .i64 7, .int .i64 an, .int .i64 aq, .int .i64 rg, .int .i64 nd, .int .i64 (i : Int), .int .i64 pr, .int .i64 oc, .int .i64 dp, .int .i64 pa, .int .i64 st, .int .i64 hw, .int .i64 de, .float .f64 ex] 42 _ rfl).below hb1)
 have hz1 := hb1.size
 simp only [World.size_alloc] at hz1
 have hs1 : R.sb < w1.heap.size := by omega
 have hs2 : w.heap.size < w1.heap.size := by omega
 obtain ⟨q, qf⟩ := HK1.out.out
 have hg1 : g < w1.heap.size := by omega
 obtain ⟨pc0, pc1, pc2, pc3, pc4, pc5, pc6⟩ := PartC.below HCL.out B1 hg
 have f1 : ∀ j, w1.frozen? ⟨g, j, none⟩ = false := fun j => (B1.frozen (p := ⟨g, j, none⟩) hg).trans (HFZ.out j)
 have c3 := (B1.cell (p := ⟨R.sb, 3, none⟩) hsb).trans HQ.out
 dsimp only at pc0 pc1 pc2 pc3 pc4 pc5 pc6
 clear pc0 pc1 pc3 pc4 pc5 pc6
 go_wp2_with fail
 go_region
 all_goals go_wp2_with fail
 all_goals go_ret
 all_goals exact ⟨rfl, HG.out _ (below_then B1 (by go_grown))⟩
end Go.Proofs.YtlkajejbfojkeaaGreatDoor
