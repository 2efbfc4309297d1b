/- Contracts of Go's library for the lines: strings.Join, strings.Split at a blank, strings.CutPrefix, strconv.Itoa. -/
import Derived.Test.YthjdaehiebcoaaaGreatDoorRows
import Derived.WalkKit
import Derived.WalkSpells
import Derived.WalkLawsBesides
import Derived.BigQuiet
import Derived.Deep.QuietTactic
import Derived.StillTailTactics
import Derived.Handy
import Derived.Lib.Hide
import Derived.Test.YthjdaehiebcoaaaGreatDoorTrcP
import Derived.Test.YthjdaehiebcoaaaGreatDoorTold
import Derived.Shelf.Lay
import Derived.Shelf.Strings.OnBuilder
import Derived.Shelf.Small.Wraps
import Derived.Shelf.Strconv.Itoa3
import Derived.Shelf.Strings.SplitShaped
set_option linter.unusedSimpArgs false
set_option linter.unusedVariables false
namespace Go.Proofs.YthjdaehiebcoaaaGreatDoor
open Go.RowKit Go.Shelf

shelf_lay Lays.n156 Nm 156 at Tryz as shJoin
theorem shExtra : Builder.Extra Tryz.prog shJoin_ren where
  sizeBuilder := by kernel_rfl
  liesBuilder := by kernel_rfl
  t5 := Tryz.underlying5
  a5 := Tryz.isAgg5
  z5 := Tryz.sizeOf5
  v5 := Tryz.zeroValue5
  infoByte := by kernel_rfl
  cellsByte := by kernel_rfl
  sizeByte := by kernel_rfl
  neB5 := by decide
shelf_lay Lays.n103 Nm 103 at Tryz as shCutPrefix
shelf_lay LaysM.n171 Nm 171 at Tryz as shItoa
shelf_lay Lays.n146 Nm 146 at Tryz as shSplit

/-- what a walk of lines takes of the world: the errors, the table of ten's powers, a number in bytealg.MaxLen -/
structure Env (ea : Int → Addr) (w : World) : Prop where
  e : Errs ea w
  tab : Lib.TabIs Tryz.prog w "internal/strconv.uint64pow10" .u64 Lib.pow10Tab
  max : ∃ m, w.cell? ⟨14, 0, none⟩ = some (.int .i64 m)
theorem tabIs_below {w w' : World} {n : String} {k : IntKind} {zs : List Int} (h : Lib.TabIs Tryz.prog w n k zs) (hb : Below w.heap.size w w') : Lib.TabIs Tryz.prog w' n k zs := by
  unfold Lib.TabIs World.var? at h ⊢
  cases hg : Tryz.prog.globalNamed n with
  | none => rw [hg] at h; cases h
  | some g =>
    rw [hg] at h
    simp only [Option.bind_some] at h ⊢
    rcases Nat.lt_or_ge g w.heap.size with hlt | hge
    · rw [hb.block g hlt]; exact h
    · rw [Array.getElem?_eq_none hge] at h; cases h
theorem Env.below {ea : Int → Addr} {w w' : World} (h : Env ea w) (hb : Below w.heap.size w w') : Env ea w' := by
  obtain ⟨m, hm⟩ := h.max
  exact ⟨h.e.below hb, tabIs_below h.tab hb, m, (hb.cell (p := ⟨14, 0, none⟩) (lt_of_cell hm)).trans hm⟩
theorem grow_below (w : World) (k : Nat) (os : Array Obj) : Below w.heap.size w (Go.Sort.grow (w.drewN k) os) := by
  exact ⟨rfl, rfl, rfl, by simp, fun j hj => Go.Sort.heap_grow_old _ _ (by simpa using hj)⟩
/-- strconv.Itoa of a number from 0 on -/
theorem itoa_of (n : Int) (h0 : 0 ≤ n) (h1 : n ≤ 999999) (w : World) (h : Lib.TabIs Tryz.prog w "internal/strconv.uint64pow10" .u64 Lib.pow10Tab) : Calls Tryz.prog 46 #[.int .i64 n] w (Makes (.string (bs (Lib.decDigits n.toNat))) w) := by
  have hn : Lib.itoa n = Lib.decDigits n.toNat := by unfold Lib.itoa; rw [if_neg (by omega)]
  refine (Any.strconv_Itoa shItoa n (by omega) (by omega) w h).mono ?_
  rintro e w' ⟨rfl, k, os, rfl⟩
  exact ⟨by rw [hn]; rfl, grow_below _ _ _⟩
theorem itoa_small (n : Nat) (h : n < 100) (w : World) : Calls Tryz.prog 46 #[.int .i64 n] w (Makes (.string (bs (Lib.decDigits n))) w) := by
  refine (Any.strconv_Itoa_small { shItoa with } n h w).mono ?_
  rintro e w' ⟨rfl, rfl⟩
  exact ⟨rfl, Below.refl _ _⟩
theorem cut_of (s p : Str) (w : World) : Calls Tryz.prog 79 #[.string (bs s), .string (bs p)] w (Gives (.tuple #[.string (bs (Lib.trimPrefix s p)), .bool (Lib.hasPrefix s p)]) w) := by
  refine (Any.strings_CutPrefix shCutPrefix (bs s) (bs p) w).mono ?_
  rintro e w' ⟨rfl, rfl⟩
  exact ⟨rfl, rfl⟩
/-- five texts joined by blanks -/
theorem join5_of (b : Nat) (x0 x1 x2 x3 x4 : Str) (w : World) (h : Blk w b #[.string (bs x0), .string (bs x1), .string (bs x2), .string (bs x3), .string (bs x4)]) (hl : x0.length + x1.length + x2.length + x3.length + x4.length ≤ 100000) :
    Calls Tryz.prog 45 #[.slice (some ⟨b, 0, none⟩) 5 5, .string ⟨#[32]⟩] w (Makes (.string (bs (x0 ++ 32 :: (x1 ++ 32 :: (x2 ++ 32 :: (x3 ++ 32 :: x4)))))) w) := by
  have hj : Lib.join ([bs x0, bs x1, bs x2, bs x3, bs x4].map (·.data.toList)) [32] = x0 ++ 32 :: (x1 ++ 32 :: (x2 ++ 32 :: (x3 ++ 32 :: x4))) := by
    simp [Lib.join, List.intercalate, bs_list, List.intersperse]
  refine (Any.strings_Join shJoin shExtra b 0 5 [bs x0, bs x1, bs x2, bs x3, bs x4] ⟨#[32]⟩ w ?_ h.lt (by simp) (by simp) ?_).mono ?_
  · intro j x hx
    rw [h.cell]
    match j, hx with
    | 0, hx | 1, hx | 2, hx | 3, hx | 4, hx => simp at hx; subst hx; rfl
  · show (Lib.join ([bs x0, bs x1, bs x2, bs x3, bs x4].map (·.data.toList)) [32]).length ≤ _
    rw [hj]
    simp only [List.length_append, List.length_cons]
    omega
  · rintro e w' ⟨rfl, hb⟩
    refine ⟨?_, hb⟩
    show Ending.returned (.string (bs (Lib.join ([bs x0, bs x1, bs x2, bs x3, bs x4].map (·.data.toList)) [32]))) = _
    rw [hj]
/-- a text's pieces as Go's library cuts them -/
theorem index_blank : ∀ (l : Str), Lib.index l [32] = -1 ∧ (∀ x ∈ l, x ≠ 32) ∨ ∃ a b : Str, l = a ++ 32 :: b ∧ (∀ x ∈ a, x ≠ 32) ∧ Lib.index l [32] = a.length
  | [] => .inl ⟨rfl, by simp⟩
  | c :: l => by
    unfold Lib.index
    by_cases hc : c = 32
    · right
      refine ⟨[], l, by simp [hc], by simp, ?_⟩
      simp [hc, List.isPrefixOf]
    · have hp : ([32] : Str).isPrefixOf (c :: l) = false := by
        simp [List.isPrefixOf]
        exact fun h => hc h.symm
      rw [hp]
      simp only [Bool.false_eq_true, if_false]
      rcases index_blank l with ⟨h1, h2⟩ | ⟨a, b, h1, h2, h3⟩
      · left
        rw [h1]
        refine ⟨rfl, fun x hx => ?_⟩
        rcases List.mem_cons.1 hx with rfl | hx
        · exact hc
        · exact h2 x hx
      · right
        refine ⟨c :: a, b, by rw [h1]; rfl, fun x hx => ?_, ?_⟩
        · rcases List.mem_cons.1 hx with rfl | hx
          · exact hc
          · exact h2 x hx
        · rw [h3, if_neg (by simp)]
          simp
theorem splitK_pieces : ∀ (k : Nat) (l : Str), l.count 32 = k → Lib.splitK [32] 0 k l = pieces l
  | 0, l, h => by
    have : ∀ x ∈ l, x ≠ 32 := fun x hx e => by subst e; exact absurd (List.count_pos_iff.2 hx) (by omega)
    rw [pieces_end l this]; rfl
  | k + 1, l, h => by
    rcases index_blank l with ⟨h1, h2⟩ | ⟨a, b, rfl, h2, h3⟩
    · exact absurd (List.count_eq_zero.2 fun hm => h2 32 hm rfl) (by omega)
    · unfold Lib.splitK
      rw [h3, if_neg (by simp)]
      have hb : b.count 32 = k := by
        rw [List.count_append, List.count_cons_self, List.count_eq_zero.2 fun hm => h2 32 hm rfl] at h
        omega
      rw [pieces_blank a b h2]
      simp only [Int.toNat_natCast, Nat.add_zero, List.length_singleton]
      rw [List.take_left, show (a ++ 32 :: b).drop (a.length + 1) = b by rw [← List.drop_drop]; simp]
      rw [splitK_pieces k b hb]
theorem split_of (s : Str) (hs : s.length ≤ 100000) (m : Int) (w : World) (hm : w.cell? ⟨14, 0, none⟩ = some (.int .i64 m)) :
    Calls Tryz.prog 19 #[.string (bs s), .string ⟨#[32]⟩] w (fun e w' => e = .returned (.slice (some ⟨w.heap.size, 0, none⟩) (pieces s).length (pieces s).length) ∧ w' = w.alloc (.cells ((pieces s).map (fun x => Value.string (bs x))).toArray 9)) := by
  have hc : Lib.countB (bs s) ⟨#[32]⟩ = s.count 32 := Lib.count_one 32 s
  have hd := Lib.splitB_data ⟨#[32]⟩ 0 (s.count 32) (bs s)
  rw [show (ByteArray.data ⟨#[32]⟩).toList = [32] from rfl, bs_list, splitK_pieces _ s rfl] at hd
  have hx : (Lib.splitB ⟨#[32]⟩ 0 (s.count 32) (bs s)).map Value.string = (pieces s).map (fun x => Value.string (bs x)) := by
    rw [← hd, List.map_map]
    refine List.map_congr_left fun x _ => ?_
    simp [bs_of]
  have hl : (pieces s).length = s.count 32 + 1 := pieces_length s
  refine (Any.strings_Split shSplit (by kernel_rfl) (bs s) ⟨#[32]⟩ m w (by rw [bs_size]; omega) hm (by decide)).mono ?_
  rintro e w' ⟨rfl, rfl⟩
  rw [hc, hx, hl]
  exact ⟨rfl, rfl⟩
end Go.Proofs.YthjdaehiebcoaaaGreatDoor
