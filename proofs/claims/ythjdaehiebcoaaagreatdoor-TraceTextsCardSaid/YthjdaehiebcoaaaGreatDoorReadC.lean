/- The walk of trace.Read. -/
import Derived.Test.YthjdaehiebcoaaaGreatDoorRows
import Derived.WalkKit
import Derived.WalkSpells
import Derived.WalkLawsBesides
import Derived.BigQuiet
import Derived.Deep.QuietTactic
import Derived.StillTailTactics
import Derived.Handy
import Derived.Lib.Hide
import Derived.Test.YthjdaehiebcoaaaGreatDoorReadB
set_option linter.unusedSimpArgs false
set_option linter.unusedVariables false
namespace Go.Proofs.YthjdaehiebcoaaaGreatDoor
open Go.RowKit

def ReadN (ea : Int → Addr) (r : Saids) (w : World) (e : Ending) (w' : World) : Prop := match r with
  | .evs es => MakesVN es w e w'
  | .no n => Makes (.tuple #[.slice none 0 0, errV (ea n)]) w e w'
theorem suffix_last (s : Str) : Lib.hasSuffix s [10] = decide (s.getLast? = some 10) := by
  rw [Bool.eq_iff_iff, decide_eq_true_eq]
  unfold Lib.hasSuffix
  rw [List.isSuffixOf_iff_suffix]
  constructor
  · rintro ⟨t, rfl⟩; simp
  · intro h
    refine ⟨s.dropLast, ?_⟩
    have hne : s ≠ [] := fun e => by subst e; simp at h
    rw [List.getLast?_eq_some_getLast hne] at h
    have := List.dropLast_concat_getLast hne
    rw [Option.some.inj h] at this
    exact this
theorem reads_num : ∀ (ls : List Str) (n : Int), tReads ls = .no n → n = 1 ∨ n = 4
  | [], n, h => by cases h
  | x :: ls, n, h => by
    unfold tReads at h
    have hx := parse_num x
    cases hp : tParse x with
    | no k =>
      rw [hp] at h hx
      have : k = n := by injection h
      subst this
      have h0 := no_num hp
      have hx' : k = 0 ∨ k = 1 ∨ k = 4 := hx
      omega
    | ev e =>
      rw [hp] at h
      simp only at h
      split at h
      · cases h
      · next k hk =>
        have : k = n := by injection h
        subst this
        exact reads_num ls k hk
set_option maxHeartbeats 1000000 in
theorem read_of (s : Str) (hs : s.length ≤ 100000) (ea : Int → Addr) (w : World) (h : Env ea w) : Calls Tryz.prog 9 #[.string (bs s)] w (ReadN ea (tRead s) w) := by
  have hmf : ∀ (fn : Fn) (first cap : Array Value) (w : World), (Instr.makeFunc fn first cap).run Tryz.prog w = .ok (.func fn first cap) w := fun _ _ _ _ => rfl
  have hB : Below w.heap.size w (w.alloc (.cells #[.string (bs s)] 9)) := (Below.refl _ _).alloc (Nat.le_refl _) _
  have HE := Lib.hid (h.below hB)
  have HS := Lib.hid (fun W => hasSuffix_of s [10] hs W)
  have hc : ∀ W, Below (w.alloc (.cells #[.string (bs s)] 9)).heap.size (w.alloc (.cells #[.string (bs s)] 9)) W → Calls Tryz.prog 32 #[.pointer (some ⟨w.heap.size, 0, none⟩)] W (ReadPost ea (tReads (tLines s)) W) := fun W hW =>
    read1_of s hs _ ea W (HE.out.below hW) (((Blk.fresh w #[.string (bs s)] 9 _ rfl).below hW).cell 0)
  have hgo : (s = [] ∨ s ≠ [] ∧ s.getLast? = some 10) → Calls Tryz.prog 9 #[.string (bs s)] w (ReadN ea (tReads (tLines s)) w) := fun hcase => by
    cases hr : tReads (tLines s) with
    | evs es =>
      rw [hr] at hc
      have HT := Lib.hid (try_gives_read ⟨w.heap.size, 0, none⟩ es _ (fun W hW => hc W hW))
      clear hc hr h
      rcases hcase with h0 | ⟨h0, hl⟩
      · have e0 : (bs s).toList = [] := by rw [bs_toList, h0]
        clear h0 HS
        go_enter Tryz.func9, Tryz.ntmps9
        go_wp2_with fail
        refine HT.out.mono ?_
        rintro e w1 ⟨v, rfl, hown, hb1⟩
        go_wp2_with fail
        go_ret2
        exact ⟨v, rfl, hown.mono (by simp), below_then hB hb1⟩
      · have e0 : ((bs s).toList == []) = false := by rw [bs_toList]; simpa using h0
        have hsu : Lib.hasSuffix s [10] = true := by rw [suffix_last, hl]; rfl
        rw [hsu] at HS
        clear h0 hl hsu
        go_enter Tryz.func9, Tryz.ntmps9
        go_wp2_with fail
        refine (HS.out _).mono ?_
        rintro e w1 ⟨rfl, rfl⟩
        go_wp2_with fail
        refine HT.out.mono ?_
        rintro e w1 ⟨v, rfl, hown, hb1⟩
        go_wp2_with fail
        go_ret2
        exact ⟨v, rfl, hown.mono (by simp), below_then hB hb1⟩
    | no n =>
      rw [hr] at hc
      have hn := reads_num _ _ hr
      have HT := Lib.hid (try_dies_read ⟨w.heap.size, 0, none⟩ n (by omega) ea _ HE.out.e (fun W hW => hc W hW))
      clear hc hr h hn
      rcases hcase with h0 | ⟨h0, hl⟩
      · have e0 : (bs s).toList = [] := by rw [bs_toList, h0]
        clear h0 HS
        go_enter Tryz.func9, Tryz.ntmps9
        go_wp2_with fail
        refine HT.out.mono ?_
        rintro e w1 ⟨rfl, hb1⟩
        go_wp2_with fail
        go_ret2
        exact ⟨rfl, below_then hB hb1⟩
      · have e0 : ((bs s).toList == []) = false := by rw [bs_toList]; simpa using h0
        have hsu : Lib.hasSuffix s [10] = true := by rw [suffix_last, hl]; rfl
        rw [hsu] at HS
        clear h0 hl hsu
        go_enter Tryz.func9, Tryz.ntmps9
        go_wp2_with fail
        refine (HS.out _).mono ?_
        rintro e w1 ⟨rfl, rfl⟩
        go_wp2_with fail
        refine HT.out.mono ?_
        rintro e w1 ⟨rfl, hb1⟩
        go_wp2_with fail
        go_ret2
        exact ⟨rfl, below_then hB hb1⟩
  unfold tRead
  by_cases h0 : s = []
  · rw [if_pos (.inl h0)]
    exact hgo (.inl h0)
  · by_cases hl : s.getLast? = some 10
    · rw [if_pos (.inr hl)]
      exact hgo (.inr ⟨h0, hl⟩)
    · rw [if_neg (by rintro (e | e); exact h0 e; exact hl e)]
      have e0 : ((bs s).toList == []) = false := by rw [bs_toList]; simpa using h0
      have hsu : Lib.hasSuffix s [10] = false := by rw [suffix_last]; exact decide_eq_false hl
      rw [hsu] at HS
      have k4 := HE.out.e.e4
      dsimp only [ErrIs] at k4
      clear hgo hc h0 hl hsu h
      go_enter Tryz.func9, Tryz.ntmps9
      go_wp2_with fail
      refine (HS.out _).mono ?_
      rintro e w1 ⟨rfl, rfl⟩
      go_wp2_with fail
      go_region
      go_wp2_with fail
      go_ret2
      exact ⟨rfl, hB.drew⟩
end Go.Proofs.YthjdaehiebcoaaaGreatDoor
