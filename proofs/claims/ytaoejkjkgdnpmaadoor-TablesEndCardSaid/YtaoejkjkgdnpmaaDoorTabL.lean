/- The walks of package tables: the lists of states and kinds. -/
import Derived.Test.YtaoejkjkgdnpmaaDoorRows
import Derived.WalkKit
import Derived.WalkSpells
import Derived.WalkLawsBesides
import Derived.BigQuiet
import Derived.Deep.QuietTactic
import Derived.StillTailTactics
import Derived.Handy
import Derived.Lib.Hide
import Derived.Test.YtaoejkjkgdnpmaaDoorTabH
set_option linter.unusedSimpArgs false
set_option linter.unusedVariables false
namespace Go.Proofs.YtaoejkjkgdnpmaaDoor
open Go.RowKit

/-- a list of numbers in a slice of the call's own -/
def OwnI (B : Nat) (v : Value) (xs : List Int) (w : World) : Prop := w.ownsRow B 3 1 v xs.length (xs.map (Value.int .i64))
theorem infoInt : (Tryd.prog.info? 3).map (fun i => (i.zero, i.size, i.bytes)) = some (some (.int .i64 0), 1, 8) := by kernel_rfl
/-- a function that answers a list and no error -/
def MakesI (xs : List Int) (w : World) (e : Ending) (w' : World) : Prop := ∃ v, e = .returned (.tuple #[v, .nilIface]) ∧ OwnI w.heap.size v xs w' ∧ Below w.heap.size w w'

theorem ownsRow_mono {w : World} {B B' : Nat} {e : TypeId} {size : Nat} {v : Value} {n : Nat} {xs : List Value} (h : w.ownsRow B e size v n xs) (hB : B' ≤ B) : w.ownsRow B' e size v n xs := by
  refine ⟨h.1, ?_⟩
  rcases h.2 with hn | ⟨g, cap, cur, rfl, hb, r⟩
  · exact .inl hn
  · exact .inr ⟨g, cap, cur, rfl, by omega, r⟩
theorem OwnI.mono {B B' : Nat} {v : Value} {xs : List Int} {w : World} (h : OwnI B v xs w) (hB : B' ≤ B) : OwnI B' v xs w := ownsRow_mono h hB
/-- the bytes of a text, in a block -/
def Bytes (w : World) (b : Nat) (s : ByteArray) : Prop := b < w.heap.size ∧ ∀ i, i < s.size → w.cell? ⟨b, i, none⟩ = some (.int .u8 (chr s i))
theorem bytesRow_at (s : ByteArray) (c i : Nat) (h : i < s.size) : (bytesRow s c)[i]? = some (.int .u8 (chr s i)) := by
  unfold bytesRow
  rw [Array.getElem?_append_left (by simpa using h)]
  have h' : i < s.data.size := h
  simp only [Array.getElem?_map, Array.getElem?_eq_getElem h', Option.map_some]
  congr 2
  exact chr_at h
theorem Bytes.grown {w w' : World} {b : Nat} {s : ByteArray} {row : Option Nat} (h : Bytes w b s) (hg : w.grownBy w' row) (hne : some b ≠ row) : Bytes w' b s :=
  ⟨Nat.lt_of_lt_of_le h.1 hg.size, fun i hi => hg.cell (h.2 i hi) hne⟩
/-- the states among the first k places of a row's text -/
def pick (s : ByteArray) (k : Nat) : List Int := (List.range k).filterMap fun i => if chr s i = 46 then none else some ((i : Int) + 1)
theorem pick_succ (s : ByteArray) (k : Nat) : pick s (k + 1) = pick s k ++ (if chr s k = 46 then [] else [(k : Int) + 1]) := by
  unfold pick
  rw [List.range_succ, List.filterMap_append]
  congr 1
  by_cases h : chr s k = 46 <;> simp [h]
theorem pick_le (s : ByteArray) (k : Nat) : (pick s k).length ≤ k := by
  unfold pick
  have := List.length_filterMap_le (fun i => if chr s i = 46 then none else some ((i : Int) + 1)) (List.range k)
  simpa using this

set_option maxRecDepth 100000 in
set_option maxHeartbeats 2000000 in
theorem states_tab (p d : Int) (t : Tab) (kind en : Int) (str : ByteArray) (rs : List Row) (w : World) (ht : tabOf p d = some t) (hrw : t.rows = (kind, str, en) :: rs) :
    Calls Tryd.prog 24 #[.int .i64 p, .int .i64 d] w (MakesI (pick str 14) w) := by
  have hwf := wf_tab ht
  obtain ⟨_, hne, hl, _, hsz, _⟩ := hwf
  have HT := Lib.hid ht; clear ht
  obtain ⟨rw, acts, waits⟩ := t
  simp only at hne hsz hl hrw
  subst hrw
  have hsz := hsz _ (List.mem_cons_self ..)
  simp only at hsz
  simp only [List.length_cons] at hl
  have hcv := fun w => run_bytes_of_string (P := Tryd.prog) w 9 76 5 str Tryd.underlying9 Tryd.underlying76 Tryd.underlying5
  rw [hsz] at hcv
  have HSZ := Lib.hid hsz; clear hsz hne
  obtain ⟨i0, ei, ez, es, eb⟩ := info_parts infoInt
  go_enter Tryd.func24, Tryd.ntmps24
  go_wp2_with (first
    | (go_at_call 28; refine (of_yes p d _ _ HT.out).mono ?_; rintro e w1 ⟨v, rfl, hT, hb1⟩; obtain ⟨br, ba, b1, b2, rfl, hr, ha⟩ := hT; obtain ⟨c1, c2, c3⟩ := hr.2 0 (by simp); simp only [List.getElem_cons_zero, Nat.zero_mul, Nat.zero_add] at c1 c2 c3; have hz1 := hb1.size; have hbr := hr.1))
  clear c1 c2 c3 hcv
  go_loopw [8, 27] (fun v i wr => ∃ k : Nat, k ≤ 14 ∧ i = .int .i64 k ∧ OwnI (w1.heap.size + 2) v (pick str k) wr ∧ Below w.heap.size w wr ∧ Hid (Bytes wr (w1.heap.size + 1) str) ∧ w1.heap.size + 2 ≤ wr.heap.size) (fun _ i _ => 14 - (intOf i).toNat)
  case atStart =>
    refine ⟨0, by omega, rfl, World.ownsRow_nil _ _ _ _, ?_, Lib.hid ⟨by simp, fun i hi => ?_⟩, by simp⟩
    · exact (((hb1.alloc hb1.size _).alloc (by simp; omega) _).drew)
    · rw [← bytesRow_at str _ i hi]
      have := World.cell?_alloc_mark (w1.alloc (.cells #[Value.slice (some { block := br, off := 0 }) (rs.length + 1) (rs.length + 1), Value.slice (some { block := ba, off := 0 }) acts.length acts.length, Value.string waits] 55))
      simp only [World.size_alloc] at this
      exact this _ _ _ _
  case round =>
    obtain ⟨k, hk, rfl, hown, hB, HBy, hwz⟩ := hrel
    have hrow : wr.ownsRow (w1.heap.size + 2) 3 1 _ (pick str k).length ((pick str k).map (Value.int .i64)) := hown
    by_cases hlt : k < 14
    · have hcell := HBy.out.2 k (by rw [HSZ.out]; exact hlt)
      have hbd := chr_bd str k
      have hpl := pick_le str k
      have hps := pick_succ str k
      by_cases hc : chr str k = 46
      · have hc' : (chr str k != 46) = false := by simpa using hc
        rw [if_pos hc, List.append_nil] at hps
        have HPS := Lib.hid hps; clear hps hc
        go_wp2_with fail
        go_roundw
        case rel => exact ⟨k + 1, by omega, by go_num, by rw [HPS.out]; exact hown, hB, HBy, hwz⟩
        case measure => simp [intOf]; omega
      · have hc' : (chr str k != 46) = true := by simpa using hc
        rw [if_neg hc] at hps
        have HPS := Lib.hid hps; clear hps hc
        go_wp2_with (at_builtin; go_loud (refine wpList_append_own _ rfl _ _ 44 rfl (w1.heap.size + 2) 3 i0 (.int .i64 0) 1 8 Tryd.underlying44 ei ez es eb rfl (by decide) _ _ _ rfl (hrow.alloc _) ⟨wr.heap.size, 0, none⟩ 1 1 [.int .i64 ((k : Int) + 1)] rfl rfl ?c1 ?c2 ?c3 ?c4 ?c5 ?_))
        case c1 =>
          intro j u hj
          match j, hj with
          | 0, hj => simp at hj; subst hj; simp [Addr.add]
        case c2 => intro u hu; simp at hu; subst hu; rfl
        case c3 => unfold maxLen; omega
        case c4 => omega
        case c5 => simp; omega
        · intro v' w2 hown' hgrow _
          have hlt' := hrow.lt
          have hwz' := hgrow.size
          simp only [World.size_alloc] at hwz'
          have hB' : Below w.heap.size w w2 := (hB.alloc hB.size _).grown hgrow (by have := hB.size; simp; omega) (fun k hk => by have := (hlt' k hk).1; omega)
          have HBy' : Bytes w2 (w1.heap.size + 1) str := (HBy.out.grown (World.grownBy_alloc _ _ none) (by simp)).grown hgrow (fun e => by have := (hlt' _ e.symm).1; omega)
          have hown2 : OwnI (w1.heap.size + 2) v' (pick str (k + 1)) w2 := by
            rw [HPS.out]
            unfold OwnI
            rw [List.length_append, List.map_append]
            exact hown'
          clear hown' hgrow hlt' hown hrow hcell
          go_wp2
          go_roundw
          case rel => exact ⟨k + 1, by omega, by go_num, hown2, hB', Lib.hid HBy', by omega⟩
          case measure => simp [intOf]; omega
    · obtain rfl : k = 14 := by omega
      go_wp2_with fail
      go_ret2
      exact ⟨_, rfl, hown.mono (by omega), hB⟩
end Go.Proofs.YtaoejkjkgdnpmaaDoor
