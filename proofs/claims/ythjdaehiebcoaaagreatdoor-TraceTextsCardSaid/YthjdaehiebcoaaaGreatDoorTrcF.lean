/- The walks of ids.ToNode and trace.Parse: a line read. -/
import Derived.Test.YthjdaehiebcoaaaGreatDoorRows
import Derived.WalkKit
import Derived.WalkSpells
import Derived.WalkLawsBesides
import Derived.BigQuiet
import Derived.Deep.QuietTactic
import Derived.StillTailTactics
import Derived.Handy
import Derived.Lib.Hide
import Derived.Test.YthjdaehiebcoaaaGreatDoorTrcE
import Derived.Test.YthjdaehiebcoaaaGreatDoorTryE
import Derived.Deep.CutRange
set_option linter.unusedSimpArgs false
set_option linter.unusedVariables false
namespace Go.Proofs.YthjdaehiebcoaaaGreatDoor
open Go.RowKit

/-- the error's number of a node's text -/
def tNodeN (s : Str) : Int := match tNode s with
  | some r => if (tVal7 r : Int) ≤ 3 then 0 else 1
  | none => 4
theorem tNode_some {s r : Str} (h : tNode s = some r) : s = 110 :: r ∧ tDigs r = true := by
  unfold tNode at h
  split at h
  · next q =>
    split at h
    · next hq => injection h with h; subst h; exact ⟨rfl, hq⟩
    · cases h
  · cases h
theorem tNode_none {s : Str} (h : tNode s = none) : (∀ r, s ≠ 110 :: r) ∨ ∃ r, s = 110 :: r ∧ tDigs r = false := by
  unfold tNode at h
  split at h
  · next q =>
    split at h
    · cases h
    · next hq => exact .inr ⟨q, rfl, by simpa using hq⟩
  · next hn => exact .inl fun r e => hn r e
theorem toNode1_of (s : Str) (hs : s.length ≤ 100000) (p : Addr) (ea : Int → Addr) (w : World) (h : Errs ea w) (hp : w.cell? p = some (.string (bs s))) :
    Calls Tryz.prog 53 #[.pointer (some p)] w (Tries ea (tNodeN s) (.int .i64 (tVal7 (s.drop 1))) w) := by
  have HE := Lib.hid h
  clear h
  cases hn : tNode s with
  | none =>
    have e4 : tNodeN s = 4 := by unfold tNodeN; rw [hn]
    refine tries_fails (by rw [e4]; decide) ?_
    rw [e4]
    rcases tNode_none hn with hno | ⟨r, rfl, hr⟩
    · have HA := Lib.hid (fun W hW => after_no s hno ea W hW)
      clear hn e4 hno hs
      go_enter Tryz.func53, Tryz.ntmps53
      go_wp2_with fail
      refine (HA.out _ (HE.out.below (by go_grown))).mono ?_
      rintro e w1 ⟨rfl, hb1⟩
      go_wp2_with fail
      exact ⟨rfl, rfl, below_then (by go_grown) hb1⟩
    · have HA := Lib.hid (fun W => after_yes r W)
      have HD := Lib.hid (fun W hW => digits_no r (by simp at hs; omega) hr ea W hW)
      clear hn e4 hs hr
      go_enter Tryz.func53, Tryz.ntmps53
      go_wp2_with fail
      refine (HA.out _).mono ?_
      rintro e w1 ⟨rfl, rfl⟩
      go_wp2_with fail
      refine (HD.out _ (HE.out.below (by go_grown))).mono ?_
      rintro e w2 ⟨rfl, hb2⟩
      go_wp2_with fail
      exact ⟨rfl, rfl, below_then (by go_grown) hb2⟩
  | some r =>
    obtain ⟨rfl, hr⟩ := tNode_some hn
    have HA := Lib.hid (fun W => after_yes r W)
    have hrl : r.length ≤ 100000 := by simp at hs; omega
    have HD := Lib.hid (fun W => digits_yes r hrl hr W)
    rw [List.drop_one, List.tail_cons]
    have hN : tNodeN (110 :: r) = if (tVal7 r : Int) ≤ 3 then 0 else 1 := by unfold tNodeN; rw [hn]
    obtain ⟨x, hx⟩ : ∃ x : Int, x = (tVal7 r : Int) := ⟨_, rfl⟩
    rw [← hx] at hN HD ⊢
    clear hn hs hr hrl hx
    by_cases h3 : x ≤ 3
    · have HU := Lib.hid (fun W => upTo_yes x 3 h3 W)
      refine tries_makes (by rw [hN, if_pos h3]) ?_
      clear hN h3
      go_enter Tryz.func53, Tryz.ntmps53
      go_wp2_with fail
      refine (HA.out _).mono ?_
      rintro e w1 ⟨rfl, rfl⟩
      go_wp2_with fail
      refine (HD.out _).mono ?_
      rintro e w2 ⟨rfl, rfl⟩
      go_wp2_with fail
      refine (HU.out _).mono ?_
      rintro e w3 ⟨rfl, rfl⟩
      go_wp2_with fail
      go_ret
      exact ⟨rfl, by go_grown⟩
    · have HU := Lib.hid (fun W hW => upTo_no x 3 (by omega) ea W hW)
      have e1 : tNodeN (110 :: r) = 1 := by rw [hN, if_neg h3]
      refine tries_fails (by rw [e1]; decide) ?_
      rw [e1]
      clear hN h3 e1
      go_enter Tryz.func53, Tryz.ntmps53
      go_wp2_with fail
      refine (HA.out _).mono ?_
      rintro e w1 ⟨rfl, rfl⟩
      go_wp2_with fail
      refine (HD.out _).mono ?_
      rintro e w2 ⟨rfl, rfl⟩
      go_wp2_with fail
      refine (HU.out _ (HE.out.below (by go_grown))).mono ?_
      rintro e w3 ⟨rfl, hb3⟩
      go_wp2_with fail
      exact ⟨rfl, rfl, below_then (by go_grown) hb3⟩
theorem toNode_of (s : Str) (hs : s.length ≤ 100000) (ea : Int → Addr) (w : World) (h : Errs ea w) :
    Calls Tryz.prog 24 #[.string (bs s)] w (Makes (.tuple #[.int .i64 (if tNodeN s = 0 then (tVal7 (s.drop 1) : Int) else 0), errOf ea (tNodeN s)]) w) := by
  have hmf : ∀ (fn : Fn) (first cap : Array Value) (w : World), (Instr.makeFunc fn first cap).run Tryz.prog w = .ok (.func fn first cap) w := fun _ _ _ _ => rfl
  have hB : Below w.heap.size w (w.alloc (.cells #[.string (bs s)] 9)) := (Below.refl _ _).alloc (Nat.le_refl _) _
  have hc : ∀ W, Below (w.alloc (.cells #[.string (bs s)] 9)).heap.size (w.alloc (.cells #[.string (bs s)] 9)) W → Calls Tryz.prog 53 #[.pointer (some ⟨w.heap.size, 0, none⟩)] W (Tries ea (tNodeN s) (.int .i64 (tVal7 (s.drop 1))) W) := fun W hW =>
    toNode1_of s hs _ ea W ((h.below hB).below hW) (((Blk.fresh w #[.string (bs s)] 9 _ rfl).below hW).cell 0)
  have hE := h.below hB
  have hr : tNodeN s = 0 ∨ tNodeN s = 1 ∨ tNodeN s = 4 := by
    unfold tNodeN
    split
    · split
      · exact .inl rfl
      · exact .inr (.inl rfl)
    · exact .inr (.inr rfl)
  unfold errOf
  obtain ⟨n, hn⟩ : ∃ n, n = tNodeN s := ⟨_, rfl⟩
  rw [← hn] at hc hr ⊢
  obtain ⟨x, hx⟩ : ∃ x : Int, x = (tVal7 (s.drop 1) : Int) := ⟨_, rfl⟩
  rw [← hx] at hc ⊢
  clear hx
  by_cases h0 : n = 0
  · rw [if_pos h0, if_pos h0]
    have HT := Lib.hid (try_gives_tonode ⟨w.heap.size, 0, none⟩ _ _ (fun W hW => tries_makes' h0 (hc W hW)))
    clear h hc hE hr hn h0 hs
    go_enter Tryz.func24, Tryz.ntmps24
    go_wp2_with fail
    refine HT.out.mono ?_
    rintro e w1 ⟨rfl, hb1⟩
    go_wp2_with fail
    go_ret2
    exact ⟨rfl, below_then hB hb1⟩
  · rw [if_neg h0, if_neg h0]
    have HT := Lib.hid (try_dies_tonode ⟨w.heap.size, 0, none⟩ n (by omega) ea _ hE (fun W hW => tries_fails' h0 (hc W hW)))
    clear h hc hE hr hn h0 hs
    go_enter Tryz.func24, Tryz.ntmps24
    go_wp2_with fail
    refine HT.out.mono ?_
    rintro e w1 ⟨rfl, hb1⟩
    go_wp2_with fail
    go_ret2
    exact ⟨rfl, below_then hB hb1⟩
end Go.Proofs.YthjdaehiebcoaaaGreatDoor
