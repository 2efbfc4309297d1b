/- How many registrations ended how: verdict.Counted, the reference's, and SameInts over seven numbers. -/
import Derived.Test.YtkidljiffeonjaaDoorRows
import Derived.WalkKit
import Derived.WalkSpells
import Derived.WalkLawsBesides
import Derived.BigQuiet
import Derived.Deep.QuietTactic
import Derived.StillTailTactics
import Derived.Handy
import Derived.Lib.Hide
import Derived.Test.YtkidljiffeonjaaDoorVerD
set_option linter.unusedSimpArgs false
set_option linter.unusedVariables false
namespace Go.Proofs.YtkidljiffeonjaaDoor
open Go.RowKit

def slot (s : MSeat) : Nat := if s.h = 7 then 0 else if s.h = 8 then 1 else if s.h = 6 then 2 else if s.h = 1 then 3 else if s.h = 4 then 4 else if s.h = 5 then 5 else 6
theorem slot_lt (s : MSeat) : slot s < 7 := by unfold slot; repeat' (split; · decide)
                                               decide
def cnt (ss : List MSeat) (i : Nat) : Int := ((ss.countP (fun s => decide (slot s = i)) : Nat) : Int)
theorem cnt_succ (ss : List MSeat) (k : Nat) (h : k < ss.length) (i : Nat) : cnt (ss.take (k + 1)) i = cnt (ss.take k) i + (if i = slot ss[k] then 1 else 0) := by
  unfold cnt
  rw [List.take_succ_eq_append_getElem h, List.countP_append]
  simp only [List.countP_cons, List.countP_nil, decide_eq_true_eq]
  by_cases h1 : slot ss[k] = i
  · rw [if_pos h1, if_pos h1.symm]; omega
  · rw [if_neg h1, if_neg (fun e => h1 e.symm)]; omega
theorem cnt_le (ss : List MSeat) (k i : Nat) : 0 ≤ cnt (ss.take k) i ∧ cnt (ss.take k) i ≤ k := by
  unfold cnt
  have h1 := List.countP_le_length (p := fun s => decide (slot s = i)) (l := ss.take k)
  have h2 := List.length_take_le k ss
  omega
def cntA (f : Nat → Int) : Array Value := #[.int .i64 (f 0), .int .i64 (f 1), .int .i64 (f 2), .int .i64 (f 3), .int .i64 (f 4), .int .i64 (f 5), .int .i64 (f 6)]
theorem cntA_get (f : Nat → Int) (i : Nat) (h : i < 7) : (cntA f)[i]? = some (.int .i64 (f i)) := by
  have : i = 0 ∨ i = 1 ∨ i = 2 ∨ i = 3 ∨ i = 4 ∨ i = 5 ∨ i = 6 := by omega
  rcases this with rfl | rfl | rfl | rfl | rfl | rfl | rfl <;> rfl
theorem cntA_set (f g : Nat → Int) (i : Nat) (h : i < 7) (hg : ∀ j, g j = f j + (if j = i then 1 else 0)) : (cntA f).set i (.int .i64 (f i + 1)) h = cntA g := by
  have : i = 0 ∨ i = 1 ∨ i = 2 ∨ i = 3 ∨ i = 4 ∨ i = 5 ∨ i = 6 := by omega
  rcases this with rfl | rfl | rfl | rfl | rfl | rfl | rfl <;> simp [cntA, hg]
theorem Blk.set {w : World} {b : Nat} {C : Array Value} (h : Blk w b C) (i : Nat) (hi : i < C.size) (v : Value) : Blk (w.setCell ⟨b, i, none⟩ v) b (C.set i v hi) := by
  refine ⟨by simpa using h.lt, fun j => ?_, fun j => by rw [World.frozen?_setCell]; exact h.free j⟩
  by_cases hj : j = i
  · subst hj
    have h1 : w.cell? ⟨b, j, none⟩ = some C[j] := by rw [h.cell]; exact Array.getElem?_eq_getElem hi
    rw [World.cell?_setCell_same (h := h1), Array.getElem?_set_self]
  · rw [World.cell?_setCell_other (h := by intro e; injection e with _ e2; exact hj e2.symm), h.cell, Array.getElem?_set_ne]
    exact fun e => hj e.symm
theorem blk_count {w : World} {C : Nat} {f g : Nat → Int} {i : Nat} (hC : Blk w C (cntA f)) (h : i < 7) (hg : ∀ j, g j = f j + (if j = i then 1 else 0)) : Blk (w.setCell ⟨C, i, none⟩ (.int .i64 (f i + 1))) C (cntA g) := by
  rw [← cntA_set f g i h hg]
  exact hC.set i h _
theorem place_of (C : Nat) (p d st h : Int) (w : World) : Calls Tryd.prog 59 #[.pointer (some ⟨C, 0, none⟩), .int .i64 h] w (Gives (.pointer (some ⟨C, slot ⟨p, d, st, h⟩, none⟩)) w) := by
  unfold slot
  dsimp only
  by_cases h7 : h = 7
  · subst h7
    rw [if_pos rfl]
    go_enter Tryd.func59, Tryd.ntmps59
    go_wp2
    go_ret
    exact ⟨rfl, rfl⟩
  rw [if_neg h7]
  by_cases h8 : h = 8
  · subst h8
    rw [if_pos rfl]
    go_enter Tryd.func59, Tryd.ntmps59
    go_wp2
    go_ret
    exact ⟨rfl, rfl⟩
  rw [if_neg h8]
  by_cases h6 : h = 6
  · subst h6
    rw [if_pos rfl]
    go_enter Tryd.func59, Tryd.ntmps59
    go_wp2
    go_ret
    exact ⟨rfl, rfl⟩
  rw [if_neg h6]
  by_cases h1 : h = 1
  · subst h1
    rw [if_pos rfl]
    go_enter Tryd.func59, Tryd.ntmps59
    go_wp2
    go_ret
    exact ⟨rfl, rfl⟩
  rw [if_neg h1]
  by_cases h4 : h = 4
  · subst h4
    rw [if_pos rfl]
    go_enter Tryd.func59, Tryd.ntmps59
    go_wp2
    go_ret
    exact ⟨rfl, rfl⟩
  rw [if_neg h4]
  by_cases h5 : h = 5
  · subst h5
    rw [if_pos rfl]
    go_enter Tryd.func59, Tryd.ntmps59
    go_wp2
    go_ret
    exact ⟨rfl, rfl⟩
  rw [if_neg h5]
  go_enter Tryd.func59, Tryd.ntmps59
  go_wp2
  go_ret
  exact ⟨rfl, rfl⟩
abbrev zero7 : Array Value := #[.int .i64 0, .int .i64 0, .int .i64 0, .int .i64 0, .int .i64 0, .int .i64 0, .int .i64 0]
set_option maxRecDepth 100000 in
set_option maxHeartbeats 4000000 in
theorem vcounted_of (v : Value) (ss : List MSeat) (w : World) (hr : RegRow w v ss) (hl : ss.length ≤ 1000) : Calls Tryd.prog 18 #[actV v] w (Makes (.agg (cntA (cnt ss))) w) := by
  obtain ⟨a, cap, rfl, hrow⟩ := hr
  have HR := Lib.hid hrow
  clear hrow
  obtain ⟨n, hn⟩ : ∃ n, n = ss.length := ⟨_, rfl⟩
  rw [← hn] at hl ⊢
  have HN := Lib.hid hn; clear hn
  dsimp only [actV] at *
  go_enter Tryd.func18, Tryd.ntmps18
  go_wp2_with fail
  go_loopw [9] (fun i wr => ∃ k : Nat, k ≤ n ∧ i = .int .i64 (k : Nat) ∧ Blk wr (w.heap.size + 1) zero7 ∧ Blk wr (w.heap.size + 1 + 1) (cntA (cnt (ss.take k))) ∧ Below w.heap.size w wr) (fun i _ => n - (intOf i).toNat)
  case atStart => exact ⟨0, by omega, by go_num, (Blk.fresh _ _ _ _ (by simp)).alloc _, Blk.fresh _ _ _ _ (by simp), by go_grown⟩
  case round =>
    obtain ⟨k, hk, rfl, hZ, hC, hB⟩ := hrel
    have HZ := Lib.hid hZ; have HC := Lib.hid hC; clear hZ hC
    by_cases hlt : k < n
    · have hks : k < ss.length := by rw [← HN.out]; exact hlt
      obtain ⟨b, off, rfl, hbl, hreg⟩ := HR.out (by intro e; rw [e] at hks; simp at hks)
      obtain ⟨s, hs⟩ : ∃ s, s = ss[k] := ⟨_, rfl⟩
      have hat := (hreg k hks).below hB hbl
      rw [← hs] at hat
      obtain ⟨c0, c1, c2, c3, c4, c5⟩ := hat
      obtain ⟨sp, sd, st, sh⟩ := s
      dsimp only at c0 c1 c2 c3 c4 c5
      have HS := Lib.hid hs
      clear hreg hs
      have hki : (k : Int) < (n : Int) := by omega
      have hk0 : (0 : Int) ≤ (k : Int) := by omega
      have hsu := cnt_succ ss k hks
      rw [← HS.out] at hsu
      have HPL := Lib.hid (place_of (w.heap.size + 1 + 1) sp sd st sh)
      have hi := slot_lt ⟨sp, sd, st, sh⟩
      have hcl := cnt_le ss k (slot ⟨sp, sd, st, sh⟩)
      obtain ⟨i, hie⟩ : ∃ i, i = slot ⟨sp, sd, st, sh⟩ := ⟨_, rfl⟩
      rw [← hie] at hsu HPL hi hcl
      obtain ⟨f, hf⟩ : ∃ f, f = cnt (ss.take k) := ⟨_, rfl⟩
      rw [← hf] at HC hcl hsu
      have HSU := Lib.hid hsu
      clear hsu hie hf HS
      have r1 : ∀ o, (wr.alloc o).cell? ⟨w.heap.size + 1 + 1, i, none⟩ = some (.int .i64 (f i)) := fun o => ((HC.out.alloc o).cell i).trans (cntA_get f i hi)
      have r2 : ∀ o, (wr.alloc o).frozen? ⟨w.heap.size + 1 + 1, i, none⟩ = false := fun o => (HC.out.alloc o).free i
      have hw : IntKind.i64.wrap (f i + 1) = f i + 1 := IntWalk.i64_in _ (by omega)
      have hCl := HC.out.lt
      go_wp2_with fail
      refine (HPL.out _).mono ?_
      rintro e w1 ⟨rfl, rfl⟩
      go_wp2_with fail
      all_goals (go_roundw <;> first | exact ⟨k + 1, by omega, by go_num, (HZ.out.other (p := ⟨w.heap.size + 1 + 1, i, none⟩) (by dsimp only; omega) _).alloc _, (blk_count HC.out hi HSU.out).alloc _, (hB.setCell (p := ⟨w.heap.size + 1 + 1, i, none⟩) (by dsimp only; omega) _).alloc (by simp; omega) _⟩ | (simp [intOf]; omega))
    · obtain rfl : k = n := by omega
      rw [List.take_of_length_le (by rw [HN.out]; omega)] at HC
      generalize cnt ss = f at *
      have z := HZ.out.cell; have zf := HZ.out.free; have c := HC.out.cell
      have hCl := HC.out.lt
      unfold cntA at *
      dsimp only [zero7] at z
      go_wp2_with fail
      exact bodyPost_ret (v := .agg #[.int .i64 (f 0), .int .i64 (f 1), .int .i64 (f 2), .int .i64 (f 3), .int .i64 (f 4), .int .i64 (f 5), .int .i64 (f 6)]) (by simp [results, Tryd.results18, go_sem, z, zf, c]) rfl ⟨rfl, by
        refine Below.setCell (p := ⟨w.heap.size + 1, 6, none⟩) (Below.setCell (p := ⟨w.heap.size + 1, 5, none⟩) (Below.setCell (p := ⟨w.heap.size + 1, 4, none⟩) (Below.setCell (p := ⟨w.heap.size + 1, 3, none⟩) (Below.setCell (p := ⟨w.heap.size + 1, 2, none⟩) (Below.setCell (p := ⟨w.heap.size + 1, 1, none⟩) (Below.setCell (p := ⟨w.heap.size + 1, 0, none⟩) hB ?_ _) ?_ _) ?_ _) ?_ _) ?_ _) ?_ _) ?_ _ <;> (dsimp only; omega)⟩
/-- how a right seat stands -/
theorem right_cases (s : MSeat) (h : mRight s = true) : (¬ s.s = 14 ∧ s.h = 0) ∨ (s.s = 14 ∧ s.h = 7) ∨ (s.s = 14 ∧ s.h = 8) ∨ (s.s = 14 ∧ s.h = 6) ∨ (s.s = 14 ∧ s.h = 1) ∨ (s.s = 14 ∧ s.h = 4) ∨ (s.s = 14 ∧ s.h = 5) := by
  unfold mRight at h
  simp only [Bool.and_eq_true] at h
  have h2 := h.2
  split at h2
  · rename_i h3
    simp only [List.contains_cons, List.contains_nil, Bool.or_false, Bool.or_eq_true, beq_iff_eq] at h2
    omega
  · rename_i h3
    simp only [decide_eq_true_eq] at h2
    exact .inl ⟨h3, h2⟩
set_option maxRecDepth 100000 in
set_option maxHeartbeats 8000000 in
theorem rcounted_of (v : Value) (ss : List MSeat) (w : World) (hr : RegRow w v ss) (hl : ss.length ≤ 1000) (hm : ∀ s ∈ ss, mRight s = true) : Calls Tryd.prog 26 #[actV v] w fun e w' => e = .returned (.slice (some ⟨w.heap.size + 1, 0, none⟩) 7 7) ∧ Blk w' (w.heap.size + 1) (cntA (cnt ss)) ∧ Below w.heap.size w w' := by
  obtain ⟨a, cap, rfl, hrow⟩ := hr
  have HR := Lib.hid hrow
  clear hrow
  obtain ⟨n, hn⟩ : ∃ n, n = ss.length := ⟨_, rfl⟩
  rw [← hn] at hl ⊢
  have HN := Lib.hid hn; clear hn
  dsimp only [actV] at *
  have HM := Lib.hid hm; clear hm
  have hmk : ∀ w : World, (Instr.makeSlice 61 (.int .i64 7) (.int .i64 7)).run Tryd.prog w = .ok (.slice (some ⟨w.heap.size, 0, none⟩) 7 7) (w.alloc (.cells zero7 3)) := fun w => by kernel_rfl
  go_enter Tryd.func26, Tryd.ntmps26
  go_wp2_with fail
  go_loopw [10] (fun i wr => ∃ k : Nat, k ≤ n ∧ i = .int .i64 (k : Nat) ∧ Blk wr (w.heap.size + 1) (cntA (cnt (ss.take k))) ∧ Below w.heap.size w wr) (fun i _ => n - (intOf i).toNat)
  case atStart => exact ⟨0, by omega, by go_num, Blk.fresh _ _ _ _ (by simp), by go_grown⟩
  case round =>
    obtain ⟨k, hk, rfl, hC, hB⟩ := hrel
    have HC := Lib.hid hC; clear hC
    by_cases hlt : k < n
    · have hks : k < ss.length := by rw [← HN.out]; exact hlt
      obtain ⟨b, off, rfl, hbl, hreg⟩ := HR.out (by intro e; rw [e] at hks; simp at hks)
      obtain ⟨s, hs⟩ : ∃ s, s = ss[k] := ⟨_, rfl⟩
      have hat := (hreg k hks).below hB hbl
      rw [← hs] at hat
      obtain ⟨c0, c1, c2, c3, c4, c5⟩ := hat
      obtain ⟨sp, sd, st, sh⟩ := s
      dsimp only at c0 c1 c2 c3 c4 c5
      have HS := Lib.hid hs
      clear hreg hs
      have hki : (k : Int) < (n : Int) := by omega
      have hk0 : (0 : Int) ≤ (k : Int) := by omega
      have hsu := cnt_succ ss k hks
      rw [← HS.out] at hsu
      have hrc := right_cases ⟨sp, sd, st, sh⟩ (by rw [HS.out]; exact HM.out _ (List.getElem_mem _))
      dsimp only at hrc
      have hcl := cnt_le ss k
      obtain ⟨f, hf⟩ : ∃ f, f = cnt (ss.take k) := ⟨_, rfl⟩
      rw [← hf] at HC hcl hsu
      have HSU := Lib.hid hsu; have HCL := Lib.hid hcl
      clear hsu hf hcl HS
      have hCl := HC.out.lt
      rcases hrc with ⟨g1, rfl⟩ | ⟨rfl, rfl⟩ | ⟨rfl, rfl⟩ | ⟨rfl, rfl⟩ | ⟨rfl, rfl⟩ | ⟨rfl, rfl⟩ | ⟨rfl, rfl⟩
      · have r1 : ∀ o, (wr.alloc o).cell? ⟨w.heap.size + 1, 6, none⟩ = some (.int .i64 (f 6)) := fun o => ((HC.out.alloc o).cell 6).trans (cntA_get f 6 (by decide))
        have r2 : ∀ o, (wr.alloc o).frozen? ⟨w.heap.size + 1, 6, none⟩ = false := fun o => (HC.out.alloc o).free 6
        have hw : IntKind.i64.wrap (f 6 + 1) = f 6 + 1 := IntWalk.i64_in _ (by have := HCL.out 6; omega)
        go_wp2_with fail
        all_goals (go_roundw <;> first | exact ⟨k + 1, by omega, by go_num, (blk_count HC.out (by decide) (by intro j; rw [HSU.out j]; simp [slot])).alloc _, (hB.setCell (p := ⟨w.heap.size + 1, 6, none⟩) (by dsimp only; omega) _).alloc (by simp; omega) _⟩ | (simp [intOf]; omega))
      · have r1 : ∀ o, (wr.alloc o).cell? ⟨w.heap.size + 1, 0, none⟩ = some (.int .i64 (f 0)) := fun o => ((HC.out.alloc o).cell 0).trans (cntA_get f 0 (by decide))
        have r2 : ∀ o, (wr.alloc o).frozen? ⟨w.heap.size + 1, 0, none⟩ = false := fun o => (HC.out.alloc o).free 0
        have hw : IntKind.i64.wrap (f 0 + 1) = f 0 + 1 := IntWalk.i64_in _ (by have := HCL.out 0; omega)
        go_wp2_with fail
        all_goals (go_roundw <;> first | exact ⟨k + 1, by omega, by go_num, (blk_count HC.out (by decide) (by intro j; rw [HSU.out j]; simp [slot])).alloc _, (hB.setCell (p := ⟨w.heap.size + 1, 0, none⟩) (by dsimp only; omega) _).alloc (by simp; omega) _⟩ | (simp [intOf]; omega))
      · have r1 : ∀ o, (wr.alloc o).cell? ⟨w.heap.size + 1, 1, none⟩ = some (.int .i64 (f 1)) := fun o => ((HC.out.alloc o).cell 1).trans (cntA_get f 1 (by decide))
        have r2 : ∀ o, (wr.alloc o).frozen? ⟨w.heap.size + 1, 1, none⟩ = false := fun o => (HC.out.alloc o).free 1
        have hw : IntKind.i64.wrap (f 1 + 1) = f 1 + 1 := IntWalk.i64_in _ (by have := HCL.out 1; omega)
        go_wp2_with fail
        all_goals (go_roundw <;> first | exact ⟨k + 1, by omega, by go_num, (blk_count HC.out (by decide) (by intro j; rw [HSU.out j]; simp [slot])).alloc _, (hB.setCell (p := ⟨w.heap.size + 1, 1, none⟩) (by dsimp only; omega) _).alloc (by simp; omega) _⟩ | (simp [intOf]; omega))
      · have r1 : ∀ o, (wr.alloc o).cell? ⟨w.heap.size + 1, 2, none⟩ = some (.int .i64 (f 2)) := fun o => ((HC.out.alloc o).cell 2).trans (cntA_get f 2 (by decide))
        have r2 : ∀ o, (wr.alloc o).frozen? ⟨w.heap.size + 1, 2, none⟩ = false := fun o => (HC.out.alloc o).free 2
        have hw : IntKind.i64.wrap (f 2 + 1) = f 2 + 1 := IntWalk.i64_in _ (by have := HCL.out 2; omega)
        go_wp2_with fail
        all_goals (go_roundw <;> first | exact ⟨k + 1, by omega, by go_num, (blk_count HC.out (by decide) (by intro j; rw [HSU.out j]; simp [slot])).alloc _, (hB.setCell (p := ⟨w.heap.size + 1, 2, none⟩) (by dsimp only; omega) _).alloc (by simp; omega) _⟩ | (simp [intOf]; omega))
      · have r1 : ∀ o, (wr.alloc o).cell? ⟨w.heap.size + 1, 3, none⟩ = some (.int .i64 (f 3)) := fun o => ((HC.out.alloc o).cell 3).trans (cntA_get f 3 (by decide))
        have r2 : ∀ o, (wr.alloc o).frozen? ⟨w.heap.size + 1, 3, none⟩ = false := fun o => (HC.out.alloc o).free 3
        have hw : IntKind.i64.wrap (f 3 + 1) = f 3 + 1 := IntWalk.i64_in _ (by have := HCL.out 3; omega)
        go_wp2_with fail
        all_goals (go_roundw <;> first | exact ⟨k + 1, by omega, by go_num, (blk_count HC.out (by decide) (by intro j; rw [HSU.out j]; simp [slot])).alloc _, (hB.setCell (p := ⟨w.heap.size + 1, 3, none⟩) (by dsimp only; omega) _).alloc (by simp; omega) _⟩ | (simp [intOf]; omega))
      · have r1 : ∀ o, (wr.alloc o).cell? ⟨w.heap.size + 1, 4, none⟩ = some (.int .i64 (f 4)) := fun o => ((HC.out.alloc o).cell 4).trans (cntA_get f 4 (by decide))
        have r2 : ∀ o, (wr.alloc o).frozen? ⟨w.heap.size + 1, 4, none⟩ = false := fun o => (HC.out.alloc o).free 4
        have hw : IntKind.i64.wrap (f 4 + 1) = f 4 + 1 := IntWalk.i64_in _ (by have := HCL.out 4; omega)
        go_wp2_with fail
        all_goals (go_roundw <;> first | exact ⟨k + 1, by omega, by go_num, (blk_count HC.out (by decide) (by intro j; rw [HSU.out j]; simp [slot])).alloc _, (hB.setCell (p := ⟨w.heap.size + 1, 4, none⟩) (by dsimp only; omega) _).alloc (by simp; omega) _⟩ | (simp [intOf]; omega))
      · have r1 : ∀ o, (wr.alloc o).cell? ⟨w.heap.size + 1, 5, none⟩ = some (.int .i64 (f 5)) := fun o => ((HC.out.alloc o).cell 5).trans (cntA_get f 5 (by decide))
        have r2 : ∀ o, (wr.alloc o).frozen? ⟨w.heap.size + 1, 5, none⟩ = false := fun o => (HC.out.alloc o).free 5
        have hw : IntKind.i64.wrap (f 5 + 1) = f 5 + 1 := IntWalk.i64_in _ (by have := HCL.out 5; omega)
        go_wp2_with fail
        all_goals (go_roundw <;> first | exact ⟨k + 1, by omega, by go_num, (blk_count HC.out (by decide) (by intro j; rw [HSU.out j]; simp [slot])).alloc _, (hB.setCell (p := ⟨w.heap.size + 1, 5, none⟩) (by dsimp only; omega) _).alloc (by simp; omega) _⟩ | (simp [intOf]; omega))
    · obtain rfl : k = n := by omega
      rw [List.take_of_length_le (by rw [HN.out]; omega)] at HC
      go_wp2_with fail
      go_ret
      exact ⟨rfl, HC.out, hB⟩
set_option maxRecDepth 100000 in
theorem same7 (b c : Nat) (f : Nat → Int) (w : World) (h1 : Blk w b (cntA f)) (h2 : Blk w c (cntA f)) : Calls Tryd.prog 25 #[.slice (some ⟨b, 0, none⟩) 7 7, .slice (some ⟨c, 0, none⟩) 7 7] w (Makes (.bool true) w) := by
  have H1 := Lib.hid h1; have H2 := Lib.hid h2
  clear h1 h2
  go_enter Tryd.func25, Tryd.ntmps25
  go_wp2_with fail
  go_loopw [13] (fun i wr => ∃ k : Nat, k ≤ 7 ∧ i = .int .i64 (k : Nat) ∧ Below w.heap.size w wr) (fun i _ => 7 - (intOf i).toNat)
  case atStart => exact ⟨0, by omega, by go_num, Below.refl _ _⟩
  case round =>
    obtain ⟨k, hk, rfl, hB⟩ := hrel
    by_cases hlt : k < 7
    · have c1 : wr.cell? ⟨b, k, none⟩ = some (.int .i64 (f k)) := ((H1.out.below hB).cell k).trans (cntA_get f k hlt)
      have c2 : wr.cell? ⟨c, k, none⟩ = some (.int .i64 (f k)) := ((H2.out.below hB).cell k).trans (cntA_get f k hlt)
      have hki : (k : Int) < 7 := by omega
      have hk0 : (0 : Int) ≤ (k : Int) := by omega
      go_wp2_with fail
      go_quiet (fail)
      all_goals go_wp2_with fail
      all_goals (go_roundw <;> first | exact ⟨k + 1, by omega, by go_num, below_then hB ⟨rfl, rfl, rfl, Nat.le_refl _, fun _ _ => rfl⟩⟩ | (simp [intOf]; omega))
    · obtain rfl : k = 7 := by omega
      go_wp2_with fail
      go_ret
      exact ⟨rfl, hB⟩
end Go.Proofs.YtkidljiffeonjaaDoor
