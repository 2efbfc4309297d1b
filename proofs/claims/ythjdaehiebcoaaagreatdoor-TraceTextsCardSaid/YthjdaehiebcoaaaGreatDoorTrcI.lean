/- trace.Parse: its contract. -/
import Derived.Test.YthjdaehiebcoaaaGreatDoorRows
import Derived.WalkKit
import Derived.WalkSpells
import Derived.WalkLawsBesides
import Derived.BigQuiet
import Derived.Deep.QuietTactic
import Derived.StillTailTactics
import Derived.Handy
import Derived.Lib.Hide
import Derived.Test.YthjdaehiebcoaaaGreatDoorTrcH
set_option linter.unusedSimpArgs false
set_option linter.unusedVariables false
namespace Go.Proofs.YthjdaehiebcoaaaGreatDoor
open Go.RowKit

theorem pieces_le : ∀ (s : Str), ∀ x ∈ pieces s, x.length ≤ s.length
  | [], x, hx => by simp [pieces] at hx; subst hx; exact Nat.le_refl _
  | c :: l, x, hx => by
    unfold pieces at hx
    split at hx
    · rcases List.mem_cons.1 hx with rfl | hx
      · simp
      · have := pieces_le l x hx
        simp only [List.length_cons]; omega
    · cases hp : pieces l with
      | nil => exact absurd hp (pieces_ne l)
      | cons p r =>
        rw [hp] at hx
        simp only [consHd, List.singleton_append] at hx
        rcases List.mem_cons.1 hx with rfl | hx
        · have := pieces_le l p (by rw [hp]; simp)
          simp only [List.length_cons]; omega
        · have := pieces_le l x (by rw [hp]; simp [hx])
          simp only [List.length_cons]; omega
theorem no_num {s : Str} {q : Int} (h : tParse s = .no q) : q ≠ 0 := by
  unfold tParse at h
  split at h
  · unfold tSay at h
    split at h
    · split at h
      · cases h
      · injection h with h; subst h; decide
    · injection h with h; subst h; decide
  · injection h with h; subst h; decide
theorem parse1_of (s : Str) (hs : s.length ≤ 100000) (p : Addr) (ea : Int → Addr) (w : World) (h : Env ea w) (hp : w.cell? p = some (.string (bs s))) :
    Calls Tryz.prog 18 #[.pointer (some p)] w (Tries ea (tParse s).num (evV (tParse s).get) w) := by
  by_cases h5 : (pieces s).length = 5
  · obtain ⟨x0, x1, x2, x3, x4, hl⟩ : ∃ x0 x1 x2 x3 x4, pieces s = [x0, x1, x2, x3, x4] := by
      match pieces s, h5 with
      | [x0, x1, x2, x3, x4], _ => exact ⟨_, _, _, _, _, rfl⟩
    have hz : x0.length ≤ 100000 ∧ x1.length ≤ 100000 ∧ x2.length ≤ 100000 ∧ x3.length ≤ 100000 ∧ x4.length ≤ 100000 := by
      have := pieces_le s
      rw [hl] at this
      refine ⟨?_, ?_, ?_, ?_, ?_⟩ <;> exact Nat.le_trans (this _ (by simp)) hs
    have hpar : tParse s = tSay x0 x1 x2 x3 x4 := by unfold tParse; rw [hl]
    rw [hpar]
    have hno : tForm x0 x1 x2 x3 x4 = false → tSay x0 x1 x2 x3 x4 = .no 4 := fun hf => by unfold tSay; rw [hf]; rfl
    have hdie : tForm x0 x1 x2 x3 x4 = false → Calls Tryz.prog 18 #[.pointer (some p)] w (Fails (errV (ea 4)) w) → Calls Tryz.prog 18 #[.pointer (some p)] w (Tries ea (tSay x0 x1 x2 x3 x4).num (evV (tSay x0 x1 x2 x3 x4).get) w) := fun hf hc => by
      rw [hno hf]
      exact tries_fails (n := 4) (by decide) hc
    cases hw : tWord x1 with
    | false => exact hdie (by unfold tForm; rw [hw]; rfl) (parse1_word s x0 x1 x2 x3 x4 hs hl hw p ea w h hp)
    | true =>
      cases h0 : tDigs x0 with
      | false => exact hdie (by unfold tForm; rw [hw, h0]; rfl) (parse1_num s x0 x1 x2 x3 x4 hs hl hz hw h0 p ea w h hp)
      | true =>
        by_cases h3 : x3 = [45] ∨ x3 ≠ [] ∧ tText x3 = true
        · by_cases h4 : x4 = [45] ∨ x4 ≠ [] ∧ tText x4 = true
          · exact parse1_rest s x0 x1 x2 x3 x4 hs hl hz hw h0 h3 h4 p ea w h hp
          · have h45 : x4 ≠ [45] := fun e => h4 (.inl e)
            have hb : x4 = [] ∨ tText x4 = false := by
              by_cases he : x4 = []
              · exact .inl he
              · right
                cases ht : tText x4 with
                | false => rfl
                | true => exact absurd (.inr ⟨he, ht⟩) h4
            refine hdie ?_ (parse1_second s x0 x1 x2 x3 x4 hs hl hz hw h0 h3 h45 hb p ea w h hp)
            have e1 : (x4 == [45]) = false := by simpa using h45
            have e2 : (!(x4 == []) && tText x4) = false := by rcases hb with e | e <;> simp [e]
            unfold tForm
            rw [e1, e2]
            simp
        · have h45 : x3 ≠ [45] := fun e => h3 (.inl e)
          have hb : x3 = [] ∨ tText x3 = false := by
            by_cases he : x3 = []
            · exact .inl he
            · right
              cases ht : tText x3 with
              | false => rfl
              | true => exact absurd (.inr ⟨he, ht⟩) h3
          refine hdie ?_ (parse1_first s x0 x1 x2 x3 x4 hs hl hz hw h0 h45 hb p ea w h hp)
          have e1 : (x3 == [45]) = false := by simpa using h45
          have e2 : (!(x3 == []) && tText x3) = false := by rcases hb with e | e <;> simp [e]
          unfold tForm
          rw [e1, e2]
          simp
  · have hpar : tParse s = .no 4 := by
      unfold tParse
      split
      · next hh => rw [hh] at h5; exact absurd rfl h5
      · rfl
    rw [hpar]
    exact tries_fails (n := 4) (by decide) (parse1_len s hs h5 p ea w h hp)
theorem parse_of (s : Str) (hs : s.length ≤ 100000) (ea : Int → Addr) (w : World) (h : Env ea w) :
    Calls Tryz.prog 6 #[.string (bs s)] w (Makes (.tuple #[evV (tParse s).get, errOf ea (tParse s).num]) w) := by
  have hmf : ∀ (fn : Fn) (first cap : Array Value) (w : World), (Instr.makeFunc fn first cap).run Tryz.prog w = .ok (.func fn first cap) w := fun _ _ _ _ => rfl
  have hB : Below w.heap.size w ((w.alloc (.cells #[.string (bs s)] 9)).alloc (.cells evZ 24)) := ((Below.refl _ _).alloc (Nat.le_refl _) _).alloc (by simp) _
  have hc : ∀ W, Below ((w.alloc (.cells #[.string (bs s)] 9)).alloc (.cells evZ 24)).heap.size ((w.alloc (.cells #[.string (bs s)] 9)).alloc (.cells evZ 24)) W → Calls Tryz.prog 18 #[.pointer (some ⟨w.heap.size, 0, none⟩)] W (Tries ea (tParse s).num (evV (tParse s).get) W) := fun W hW =>
    parse1_of s hs _ ea W ((h.below hB).below hW) ((((Blk.fresh w #[.string (bs s)] 9 _ rfl).alloc _).below hW).cell 0)
  have hE := h.e.below hB
  have hnum := parse_num s
  have hR := Lib.hid (fun W (hW : Below ((w.alloc (.cells #[.string (bs s)] 9)).alloc (.cells evZ 24)).heap.size ((w.alloc (.cells #[.string (bs s)] 9)).alloc (.cells evZ 24)) W) => (Blk.fresh (w.alloc (.cells #[.string (bs s)] 9)) evZ 24 (w.heap.size + 1) (by simp)).below hW)
  have HBB := Lib.hid hB
  unfold errOf
  cases hpar : tParse s with
  | ev e =>
    rw [hpar] at hc
    rw [if_pos (show (Said.ev e).num = 0 from rfl)]
    obtain ⟨step, what, node, first, second⟩ := e
    have HT := Lib.hid (try_gives_e ⟨w.heap.size, 0, none⟩ step node (bs what) (bs first) (bs second) _ (fun W hW => tries_makes' (n := 0) rfl (hc W hW)))
    clear h hc hE hnum hpar hB hs
    dsimp only [Said.get, Said.num, evV, evC]
    go_enter Tryz.func6, Tryz.ntmps6
    go_wp2_with fail
    refine HT.out.mono ?_
    rintro e w1 ⟨rfl, hb1⟩
    have KR := Lib.hid (hR.out w1 hb1)
    have KX := Lib.hid (KR.out.set5 rfl step (bs what) node (bs first) (bs second))
    have KB := Lib.hid (set5_below (below_then HBB.out hb1) (Nat.le_succ w.heap.size) step (bs what) node (bs first) (bs second))
    have r0 : w1.cell? ⟨w.heap.size + 1, 0, none⟩ = some (.int .i64 0) := KR.out.cell 0
    have r1 : w1.cell? ⟨w.heap.size + 1, 1, none⟩ = some (.string ⟨#[]⟩) := KR.out.cell 1
    have r2 : w1.cell? ⟨w.heap.size + 1, 2, none⟩ = some (.int .i64 0) := KR.out.cell 2
    have r3 : w1.cell? ⟨w.heap.size + 1, 3, none⟩ = some (.string ⟨#[]⟩) := KR.out.cell 3
    have r4 : w1.cell? ⟨w.heap.size + 1, 4, none⟩ = some (.string ⟨#[]⟩) := KR.out.cell 4
    have r5 := KR.out.free
    dsimp only [set5] at KX KB
    go_wp2_with fail
    clear r0 r1 r2 r3 r4 r5
    generalize ((((w1.setCell ⟨w.heap.size + 1, 0, none⟩ (.int .i64 step)).setCell ⟨w.heap.size + 1, 1, none⟩ (.string (bs what))).setCell ⟨w.heap.size + 1, 2, none⟩ (.int .i64 node)).setCell ⟨w.heap.size + 1, 3, none⟩ (.string (bs first))).setCell ⟨w.heap.size + 1, 4, none⟩ (.string (bs second)) = ws at *
    have q := KX.out.cell
    have qf := KX.out.free
    exact bodyPost_ret (v := .tuple #[.agg #[.int .i64 step, .string (bs what), .int .i64 node, .string (bs first), .string (bs second)], .nilIface]) (by simp [results, Tryz.results6, go_sem, q, qf]) rfl ⟨rfl, KB.out⟩
  | no n =>
    rw [hpar] at hc hnum
    have hn : n ≠ 0 ∧ 1 ≤ n ∧ n ≤ 14 := by
      rcases hnum with h | h | h
      · exfalso
        have := hpar
        have hx : ∀ q, tParse s = .no q → q ≠ 0 := fun q hq => no_num hq
        exact hx n hpar h
      · have : n = 1 := h
        omega
      · have : n = 4 := h
        omega
    have hgo : (Said.no n).num = n := rfl
    rw [hgo, if_neg hn.1]
    have HT := Lib.hid (try_dies_e ⟨w.heap.size, 0, none⟩ n hn.2 ea _ hE (fun W hW => tries_fails' hn.1 (hc W hW)))
    obtain ⟨step, hstep⟩ : ∃ x : Int, x = 0 := ⟨_, rfl⟩
    clear h hc hE hnum hpar hB hs hgo hn hstep
    dsimp only [Said.get, evV, evC, ev0]
    go_enter Tryz.func6, Tryz.ntmps6
    go_wp2_with fail
    refine HT.out.mono ?_
    rintro e w1 ⟨rfl, hb1⟩
    have KR := Lib.hid (hR.out w1 hb1)
    have KX := Lib.hid (KR.out.set5 rfl 0 ⟨#[]⟩ 0 ⟨#[]⟩ ⟨#[]⟩)
    have KB := Lib.hid (set5_below (below_then HBB.out hb1) (Nat.le_succ w.heap.size) 0 ⟨#[]⟩ 0 ⟨#[]⟩ ⟨#[]⟩)
    have r0 : w1.cell? ⟨w.heap.size + 1, 0, none⟩ = some (.int .i64 0) := KR.out.cell 0
    have r1 : w1.cell? ⟨w.heap.size + 1, 1, none⟩ = some (.string ⟨#[]⟩) := KR.out.cell 1
    have r2 : w1.cell? ⟨w.heap.size + 1, 2, none⟩ = some (.int .i64 0) := KR.out.cell 2
    have r3 : w1.cell? ⟨w.heap.size + 1, 3, none⟩ = some (.string ⟨#[]⟩) := KR.out.cell 3
    have r4 : w1.cell? ⟨w.heap.size + 1, 4, none⟩ = some (.string ⟨#[]⟩) := KR.out.cell 4
    have r5 := KR.out.free
    dsimp only [set5] at KX KB
    go_wp2_with fail
    clear r0 r1 r2 r3 r4 r5
    generalize ((((w1.setCell ⟨w.heap.size + 1, 0, none⟩ (.int .i64 0)).setCell ⟨w.heap.size + 1, 1, none⟩ (.string ⟨#[]⟩)).setCell ⟨w.heap.size + 1, 2, none⟩ (.int .i64 0)).setCell ⟨w.heap.size + 1, 3, none⟩ (.string ⟨#[]⟩)).setCell ⟨w.heap.size + 1, 4, none⟩ (.string ⟨#[]⟩) = ws at *
    have q := KX.out.cell
    have qf := KX.out.free
    exact bodyPost_ret (v := .tuple #[.agg #[.int .i64 0, .string ⟨#[]⟩, .int .i64 0, .string ⟨#[]⟩, .string ⟨#[]⟩], errV (ea n)]) (by simp [results, Tryz.results6, go_sem, q, qf]) rfl ⟨rfl, KB.out⟩
end Go.Proofs.YthjdaehiebcoaaaGreatDoor
