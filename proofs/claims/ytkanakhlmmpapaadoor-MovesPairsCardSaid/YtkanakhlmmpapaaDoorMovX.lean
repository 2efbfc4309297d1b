/- The reference's pair in memory (liaisonref11): Deliver where it answers an error. -/
import Derived.Test.YtkanakhlmmpapaaDoorRows
import Derived.WalkKit
import Derived.WalkSpells
import Derived.WalkLawsBesides
import Derived.BigQuiet
import Derived.Deep.QuietTactic
import Derived.StillTailTactics
import Derived.Handy
import Derived.Lib.Hide
import Derived.Test.YtkanakhlmmpapaaDoorMovW
set_option linter.unusedSimpArgs false
set_option linter.unusedVariables false
namespace Go.Proofs.YtkanakhlmmpapaaDoor
open Go.RowKit

set_option maxRecDepth 100000 in
set_option maxHeartbeats 4000000 in
theorem gpdeliver_err (B g sb : Nat) (v : Value) (P : MPair) (i : Int) (copies : Bool) (w : World) (h : RefIn B g sb v P w) (hl : P.fl.length ≤ 1000)
    (hc : i < 0 ∨ (P.fl.length : Int) ≤ i ∨ (copies = true ∧ mFull P = true)) :
    Calls Tryd.prog 54 #[.pointer (some ⟨g, 0, none⟩), .int .i64 i, .bool copies] w fun e w' => e = .returned (.tuple #[effV (mPDeliver P i copies).2.1, .int .i64 (mPDeliver P i copies).2.2]) ∧ RefGoes B g sb v (mPDeliver P i copies).1 w w' := by
  have hgl := h.blk.lt
  have q8 := fun o => (h.blk.alloc o).cell
  have hz : RefGoes B g sb v P w (w.alloc (.cells #[.int .i64 0, .int .i64 0, .int .i64 0, .int .i64 0, .int .i64 0, .int .i64 0, .int .i64 0, .bool false] 51)) := RefGoes.same h ((Below.refl _ _).alloc (Nat.le_refl _) _)
  have hfull : mFull P = decide ((63 : Int) < (P.fl.length : Int)) := by unfold mFull; rw [Bool.eq_iff_iff]; simp; omega
  unfold mPDeliver
  rw [hfull] at hc ⊢
  clear hfull
  obtain ⟨a, cap, rfl⟩ := own_slice h.own
  have HZ := Lib.hid hz; clear hz h
  obtain ⟨n, hn⟩ : ∃ n, n = P.fl.length := ⟨_, rfl⟩
  rw [← hn] at hl q8 hc HZ ⊢
  clear hn hgl
  by_cases h0 : i < 0
  · rw [if_pos (.inl h0)]
    clear hc
    go_enter Tryd.func54, Tryd.ntmps54
    go_wp2_with fail
    exact bodyPost_ret (v := .tuple #[.agg #[.int .i64 0, .int .i64 0, .int .i64 0, .int .i64 0, .int .i64 0, .int .i64 0, .int .i64 0, .bool false], .int .i64 1]) (by simp [results, Tryd.results54, go_sem]) rfl ⟨rfl, HZ.out⟩
  · by_cases h1 : (n : Int) ≤ i
    · rw [if_pos (.inr h1)]
      have h2 : 0 ≤ i := by omega
      clear hc
      go_enter Tryd.func54, Tryd.ntmps54
      go_wp2_with fail
      exact bodyPost_ret (v := .tuple #[.agg #[.int .i64 0, .int .i64 0, .int .i64 0, .int .i64 0, .int .i64 0, .int .i64 0, .int .i64 0, .bool false], .int .i64 1]) (by simp [results, Tryd.results54, go_sem]) rfl ⟨rfl, HZ.out⟩
    · have h3 : copies = true ∧ (63 : Int) < (n : Int) := by
        rcases hc with h | h | h
        · exact absurd h h0
        · exact absurd h h1
        · exact ⟨h.1, by simpa using h.2⟩
      obtain ⟨rfl, h5⟩ := h3
      rw [if_neg (by omega), if_pos ⟨rfl, by simpa using h5⟩]
      have h2 : 0 ≤ i := by omega
      have h4 : i < (n : Int) := by omega
      clear hc
      go_enter Tryd.func54, Tryd.ntmps54
      go_wp2_with fail
      exact bodyPost_ret (v := .tuple #[.agg #[.int .i64 0, .int .i64 0, .int .i64 0, .int .i64 0, .int .i64 0, .int .i64 0, .int .i64 0, .bool false], .int .i64 6]) (by simp [results, Tryd.results54, go_sem]) rfl ⟨rfl, HZ.out⟩
end Go.Proofs.YtkanakhlmmpapaaDoor
