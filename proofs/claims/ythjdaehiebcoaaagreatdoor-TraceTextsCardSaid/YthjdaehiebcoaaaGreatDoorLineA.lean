/- The chapter's example, numbers of errors, events held against each other. -/
import Derived.Test.YthjdaehiebcoaaaGreatDoorRows
import Derived.WalkKit
import Derived.WalkSpells
import Derived.WalkLawsBesides
import Derived.BigQuiet
import Derived.Deep.QuietTactic
import Derived.StillTailTactics
import Derived.Handy
import Derived.Lib.Hide
import Derived.Test.YthjdaehiebcoaaaGreatDoorTrcI
import Derived.Test.YthjdaehiebcoaaaGreatDoorRefN
set_option linter.unusedSimpArgs false
set_option linter.unusedVariables false
namespace Go.Proofs.YthjdaehiebcoaaaGreatDoor
open Go.RowKit

theorem num27 (n : Int) (hn : 0 ≤ n ∧ n ≤ 14) (ea : Int → Addr) (w : World) (h : Errs ea w) : Calls Tryz.prog 8 #[errOf ea n] w (Makes (.int .i64 n) w) := by
  unfold errOf
  split
  · rename_i h0; subst h0; exact num_nil w
  · exact num_some n (by omega) ea w h
def evEx : Ev := ⟨3, [116, 111, 108, 100], 1, [69, 120, 105, 116, 58, 97, 48, 46, 49, 47, 50], []⟩
theorem alive27 (ea : Int → Addr) (w : World) (h : Env ea w) : Calls Tryz.prog 5 #[] w (Makes (.bool true) w) := by
  have hl := line_of evEx (by refine ⟨?_, ?_, ?_⟩ <;> decide) ea w h
  have h0 : tLineN evEx = 0 := by decide +kernel
  have hx : tLine evEx = [51, 32, 116, 111, 108, 100, 32, 110, 49, 32, 69, 120, 105, 116, 58, 97, 48, 46, 49, 47, 50, 32, 45] := by
    unfold tLine
    rw [if_pos h0]
    have d3 : Lib.decDigits 3 = [51] := by rw [Lib.decDigits]; rfl
    have d1 : Lib.decDigits 1 = [49] := by rw [Lib.decDigits]; rfl
    show Lib.decDigits 3 ++ 32 :: ([116, 111, 108, 100] ++ 32 :: ((110 :: Lib.decDigits 1) ++ 32 :: ([69, 120, 105, 116, 58, 97, 48, 46, 49, 47, 50] ++ 32 :: [45]))) = _
    rw [d3, d1]; rfl
  rw [h0, hx, show errOf ea 0 = .nilIface from rfl] at hl
  have HL := Lib.hid hl
  clear hl hx h0 h
  dsimp only [evV, evC, evEx, bs] at HL
  go_enter Tryz.func5, Tryz.ntmps5
  go_wp2_with fail
  refine HL.out.mono ?_
  rintro e w1 ⟨rfl, hb⟩
  go_wp2_with fail
  go_ret
  exact ⟨ret_bool (by simp), hb⟩
set_option maxHeartbeats 1000000 in
/-- == of events -/
theorem evEq (T : TypeId) (hT : T = 24) (a c a' c' : Int) (b d f b' d' f' : Str) (w : World) : (binOp .eql T (.agg #[.int .i64 a, .string (bs b), .int .i64 c, .string (bs d), .string (bs f)]) (.agg #[.int .i64 a', .string (bs b'), .int .i64 c', .string (bs d'), .string (bs f')])).run Tryz.prog w = .ok (.bool (decide ((⟨a, b, c, d, f⟩ : Ev) = ⟨a', b', c', d', f'⟩))) w := by
  subst hT
  by_cases h1 : a = a' <;> by_cases h2 : b = b' <;> by_cases h3 : c = c' <;> by_cases h4 : d = d' <;> by_cases h5 : f = f' <;> (go_simp; try simp [h1, h2, h3, h4, h5, bs_toList])
end Go.Proofs.YthjdaehiebcoaaaGreatDoor
