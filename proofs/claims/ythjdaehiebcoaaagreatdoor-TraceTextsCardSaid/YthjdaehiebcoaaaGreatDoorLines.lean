/- The iterator of strings.Lines; contracts of HasSuffix, TrimSuffix, IndexByte. -/
import Derived.Test.YthjdaehiebcoaaaGreatDoorRows
import Derived.WalkKit
import Derived.WalkSpells
import Derived.WalkLawsBesides
import Derived.BigQuiet
import Derived.Deep.QuietTactic
import Derived.StillTailTactics
import Derived.Handy
import Derived.Lib.Hide
import Derived.Test.YthjdaehiebcoaaaGreatDoorLinP
import Derived.Test.YthjdaehiebcoaaaGreatDoorRangeP
import Derived.Test.YthjdaehiebcoaaaGreatDoorRefP
import Derived.Shelf.Lay
import Derived.Shelf.Strings.Prefix
import Derived.Shelf.Small.Strs
import Derived.OwnWalkIn
import Derived.TacticsInMore
import Derived.LoopNIn
import Derived.LoopIn
import Derived.Shelf.RegionOpen
set_option linter.unusedSimpArgs false
set_option linter.unusedVariables false
namespace Go.Proofs.YthjdaehiebcoaaaGreatDoor
open Go.RowKit Go.Shelf
attribute [local go_sem] Oper.semAt_some

shelf_lay Lays.n100 Nm 100 at Tryz as shHasSuffix
shelf_lay Lays.n102 Nm 102 at Tryz as shTrimSuffix
shelf_lay Lays.n137 Nm 137 at Tryz as shIndexByte
theorem hasSuffix_of (s p : Str) (hs : s.length ≤ 100000) (w : World) : Calls Tryz.prog 30 #[.string (bs s), .string (bs p)] w (Gives (.bool (Lib.hasSuffix s p)) w) := by
  refine (Any.strings_HasSuffix shHasSuffix (bs s) (bs p) w (by rw [bs_size]; omega)).mono ?_
  rintro e w' ⟨rfl, rfl⟩
  exact ⟨rfl, rfl⟩
theorem trimSuffix_of (s : Str) (hs : s.length ≤ 100000) (w : World) : Calls Tryz.prog 35 #[.string (bs s), .string ⟨#[10]⟩] w (Gives (.string (bs (trimN s))) w) := by
  refine (Any.strings_TrimSuffix shTrimSuffix (bs s) (bs [10]) w (by rw [bs_size]; omega)).mono ?_
  rintro e w' ⟨rfl, rfl⟩
  exact ⟨rfl, rfl⟩
theorem indexByte_of (s : Str) (w : World) : Calls Tryz.prog 62 #[.string (bs s), .int .u8 10] w (Gives (.int .i64 (Lib.indexByte s 10)) w) := by
  refine (Any.strings_IndexByte shIndexByte (bs s) 10 w).mono ?_
  rintro e w' ⟨rfl, rfl⟩
  exact ⟨rfl, rfl⟩
abbrev StrB := { x : Str // x.length ≤ 100000 }
/-- the iterator's own store -/
def Turns (sb : Nat) (A B : World) : Prop := ∃ v k, B = (A.setCell ⟨sb, 0, none⟩ v).drewN k
theorem turns_keeps {sb : Nat} {A B : World} (m : Nat) (h : Turns sb A B) : KeepsFrom m A B := by
  obtain ⟨v, k, rfl⟩ := h
  have h := (KeepsOthers.setCell A ⟨sb, 0, none⟩ v).from m
  exact ⟨h.size, h.same⟩
def LinRel (J : List StrB → World → Prop) (sb : Nat) (s : Str) (wr : World) : Prop :=
  ∃ (pre : List StrB) (r : Str), J pre wr ∧ Blk wr sb #[.string (bs r)] ∧ (pre.map (·.1)).map trimN ++ tLines r = tLines s ∧ r.length ≤ 100000
def linLeft (sb : Nat) (w : World) : Nat := match w.cell? ⟨sb, 0, none⟩ with
  | some (.string s) => s.size
  | _ => 0
theorem linLeft_blk {sb : Nat} {w : World} {r : Str} (h : Blk w sb #[.string (bs r)]) : linLeft sb w = r.length := by
  unfold linLeft
  rw [h.cell 0]
  exact bs_size r
theorem Blk.store {w : World} {b : Nat} {x : Value} (h : Blk w b #[x]) (v : Value) : Blk (w.setCell ⟨b, 0, none⟩ v) b #[v] := by
  refine ⟨by simpa using h.lt, fun j => ?_, fun j => by rw [World.frozen?_setCell]; exact h.free j⟩
  by_cases hj : j = 0
  · subst hj
    exact (World.cell?_setCell_same w ⟨b, 0, none⟩ v (h.cell 0)).trans rfl
  · rw [World.cell?_setCell_other (h := by intro e; injection e with _ e2; exact hj e2.symm), h.cell]
    match j, hj with
    | j + 1, _ => rfl
set_option maxRecDepth 100000 in
set_option maxHeartbeats 2000000 in
theorem lines_in (n : Nat) (hn : 1 ≤ n) (sb : Nat) (s : Str) (l : Nat) (J : List StrB → World → Prop) (Jp : List StrB → List PanicEntry → World → Prop) (W : World) (hJ : ∀ pre A B, J pre A → Turns sb A B → J pre B) (hS : Blk W sb #[.string (bs s)]) (hs : s.length ≤ 100000)
    (hY : ∀ pre (x : StrB) W1, J pre W1 → (∃ rest, ((pre ++ [x]).map (·.1)).map trimN ++ rest = tLines s) → YieldAt Fence.wide (n - 1) Tryz.prog l #[.string (bs x.1)] W1 fun e W' => (e = .returned (.bool true) ∧ J (pre ++ [x]) W' ∧ ∀ C, Blk W1 sb C → Blk W' sb C) ∨ (∃ c, e = .panicked c ∧ Jp (pre ++ [x]) c W'))
    (h0 : J [] W) : CallsIn Fence.wide n Tryz.prog 61 #[.func (.yield l) #[] #[], .pointer (some ⟨sb, 0, none⟩)] W fun e W' => (∃ v, e = .returned v ∧ ∃ xs : List StrB, (xs.map (·.1)).map trimN = tLines s ∧ J xs W') ∨ ∃ c, ∃ pre : List StrB, e = .panicked c ∧ (∃ rest, (pre.map (·.1)).map trimN ++ rest = tLines s) ∧ Jp pre c W' := by
  refine callsIn_of_wp Tryz.func61 rfl trivial ?_ rfl
  simp only [Tryz.ntmps61, List.size_toArray, List.length_cons, List.length_nil, Nat.reduceAdd, Nat.reduceSub, Array.replicate_succ, Array.replicate_zero, List.push_toArray, List.append_toArray, List.nil_append, List.cons_append]
  gi_wp2
  gi_loopw [3] (fun _ wr => LinRel J sb s wr) (fun _ wr => linLeft sb wr)
  case atStart => exact ⟨[], s, h0, hS, rfl, hs⟩
  case round =>
    obtain ⟨pre, r, hj, hb, hp, hr⟩ := hrel
    have hml := linLeft_blk hb
    have c0 : wr.cell? ⟨sb, 0, none⟩ = some (.string (bs r)) := hb.cell 0
    have f0 := hb.free 0
    have HP := Lib.hid hp; have HB := Lib.hid hb; have HML := Lib.hid hml
    obtain ⟨m, hm⟩ : ∃ m : Nat, m = r.length := ⟨_, rfl⟩
    have hsz : (bs r).size = m := by rw [bs_size, hm]
    have hm1 : m ≤ 100000 := by omega
    have HM := Lib.hid hm
    clear hp hb hm hr hml
    by_cases hm0 : 0 < m
    · have hr0 : r ≠ [] := fun e => by have := HM.out; rw [e] at this; simp at this; omega
      have HR0 := Lib.hid hr0
      have HIX := Lib.hid (fun W => indexByte_of r W)
      clear hr0
      have hge := Lib.indexByte_ge r 10
      by_cases hi : Lib.indexByte r 10 = -1
      · have hst : ∀ v k, Turns sb wr ((wr.setCell ⟨sb, 0, none⟩ v).drewN k) := fun v k => ⟨v, k, rfl⟩
        have hj2 : J pre (wr.setCell ⟨sb, 0, none⟩ (.string ⟨#[]⟩)) := hJ pre wr _ hj ⟨.string ⟨#[]⟩, 0, rfl⟩
        have hsn := step_no (s := s) (pre := pre.map (·.1)) HR0.out hi HP.out
        have HSN := Lib.hid hsn
        rw [hi] at HIX
        have hbs : Blk (wr.setCell ⟨sb, 0, none⟩ (.string ⟨#[]⟩)) sb #[.string (bs [])] := HB.out.store _
        have HBS := Lib.hid hbs
        have hrl : r.length ≤ 100000 := by rw [← HM.out]; exact hm1
        obtain ⟨fn, tmps, assign, body, hy, hR⟩ := hY pre ⟨r, hrl⟩ _ hj2 ⟨_, by rw [List.map_append]; exact HSN.out⟩
        dsimp only at hy
        have HRR := Lib.hid hR; have HJ2 := Lib.hid hj2
        clear hsn hst hi hge hbs hj2 hR
        gi_wp2_with fail
        refine ⟨trivial, ?_⟩
        refine (callsIn_wide.2 (HIX.out _)).mono ?_
        rintro e w1 ⟨rfl, rfl⟩
        gi_wp2_with fail
        refine HRR.out.mono ?_
        rintro e W3 (⟨rfl, hJ3, hk3⟩ | ⟨c, rfl, hp3⟩)
        · gi_wp2
          go_roundw
          case rel => exact ⟨_, [], hJ3, hk3 _ HBS.out, by rw [List.map_append]; exact HSN.out, by simp⟩
          case measure =>
            have h1 := linLeft_blk (hk3 _ HBS.out)
            rw [h1, HML.out, ← HM.out]; simpa using hm0
        · exact ⟨rfl, .inr ⟨c, _, rfl, ⟨_, by rw [List.map_append]; exact HSN.out⟩, hp3⟩⟩
      · obtain ⟨o, ho⟩ : ∃ o : Nat, Lib.indexByte r 10 = (o : Int) := ⟨(Lib.indexByte r 10).toNat, by omega⟩
        have hor := (index_yes ho).1
        have hsn := step_yes (s := s) (pre := pre.map (·.1)) ho HP.out
        have HSN := Lib.hid hsn
        rw [ho] at HIX
        have e1 : (bs r).extract 0 (o + 1) = bs (r.take (o + 1)) := by rw [ext_bs]; simp
        have e2 : (bs r).extract (o + 1) m = bs (r.drop (o + 1)) := by
          rw [ext_bs, List.take_of_length_le (by rw [List.length_drop, ← HM.out]; omega)]
        have hom : o < m := by rw [HM.out]; exact hor
        have ho0 : (0 : Int) ≤ (o : Int) := by omega
        have hom1 : (o : Int) + 1 ≤ (m : Int) := by omega
        obtain ⟨x, hx⟩ : ∃ x, x = r.take (o + 1) := ⟨_, rfl⟩
        obtain ⟨y, hy⟩ : ∃ y, y = r.drop (o + 1) := ⟨_, rfl⟩
        rw [← hx, ← hy] at HSN
        rw [← hx] at e1
        rw [← hy] at e2
        have hxl : x.length ≤ 100000 := by rw [hx, List.length_take, ← HM.out]; omega
        have hyl : y.length < m := by rw [hy, List.length_drop, ← HM.out]; omega
        have HE1 := Lib.hid e1; have HE2 := Lib.hid e2; have HNM := Lib.hid (And.intro hom (And.intro hxl hyl))
        clear hsn hi hge hor ho hx hy e1 e2 hom ho0 hom1 hxl hyl
        gi_wp2_with fail
        refine ⟨trivial, ?_⟩
        refine (callsIn_wide.2 (HIX.out _)).mono ?_
        rintro e w1 ⟨rfl, rfl⟩
        have e1 := HE1.out; have e2 := HE2.out; obtain ⟨hom, hxl, hyl⟩ := HNM.out
        have ho0 : (0 : Int) ≤ (o : Int) := by omega
        have hom1 : (o : Int) + 1 ≤ (m : Int) := by omega
        have hw1 : IntKind.i64.wrap ((o : Int) + 1) = (o : Int) + 1 := wrap_small _ (by omega) (by omega)
        have hw2 : ((o : Int) + 1).toNat = o + 1 := by omega
        have hj2 : J pre (wr.setCell ⟨sb, 0, none⟩ (.string (bs y))).drew := hJ pre wr _ hj ⟨.string (bs y), 1, rfl⟩
        have HBS := Lib.hid ((HB.out.store (.string (bs y))).drew)
        obtain ⟨fn, tmps, assign, body, hy, hR⟩ := hY pre ⟨x, hxl⟩ _ hj2 ⟨_, by rw [List.map_append]; exact HSN.out⟩
        dsimp only at hy
        have HRR := Lib.hid hR; have HXY := Lib.hid (And.intro hxl hyl)
        clear hj2 hR hyl
        gi_wp2_with fail
        refine wpIn_wide.2 ?_
        go_region
        gi_wp2_with fail
        refine HRR.out.mono ?_
        rintro e W3 (⟨rfl, hJ3, hk3⟩ | ⟨c, rfl, hp3⟩)
        · have HB3 := Lib.hid (hk3 _ HBS.out)
          clear hw1 hw2 e1 e2
          gi_wp2
          go_roundw
          case rel => exact ⟨_, y, hJ3, HB3.out, by rw [List.map_append]; exact HSN.out, by have := HXY.out.2; omega⟩
          case measure =>
            rw [linLeft_blk HB3.out, HML.out, ← HM.out]; exact HXY.out.2
        · exact ⟨rfl, .inr ⟨c, _, rfl, ⟨_, by rw [List.map_append]; exact HSN.out⟩, hp3⟩⟩
    · obtain rfl : m = 0 := by omega
      have hr0 : r = [] := List.eq_nil_of_length_eq_zero HM.out.symm
      have HR := Lib.hid hr0
      clear hr0
      gi_wp2
      go_end0
      exact .inl ⟨_, rfl, pre, by have := HP.out; rw [HR.out] at this; simpa [tLines] using this, hj⟩
end Go.Proofs.YthjdaehiebcoaaaGreatDoor
