/- The closure by which due timers are sorted. -/
import Derived.Test.YtkidljiffeonjaaDoorRows
import Derived.WalkKit
import Derived.WalkSpells
import Derived.WalkLawsBesides
import Derived.BigQuiet
import Derived.Deep.QuietTactic
import Derived.StillTailTactics
import Derived.Handy
import Derived.Lib.Hide
import Derived.Test.YtkidljiffeonjaaDoorTimG
import Derived.StillTailTactics
import Derived.Test.YtkidljiffeonjaaDoorBlk
import Derived.Deep.RegionWith
import Derived.Sort.Grow
set_option linter.unusedSimpArgs false
set_option linter.unusedVariables false
namespace Go.Proofs.YtkidljiffeonjaaDoor
open Go.RowKit
attribute [local go_sem] store_float

theorem notnan_str (a : ByteArray) (w : World) : Calls Tryd.prog 116 #[.string a] w (Gives (.bool false) w) := by
  go_enter Tryd.func116, Tryd.ntmps116
  go_wp2
  go_ret
  exact ⟨ret_bool (by simp), rfl⟩
theorem cmpStr_of (a b : ByteArray) (w : World) : Calls Tryd.prog 79 #[.string a, .string b] w (Gives (.int .i64 (kcmp a b)) w) := by
  have HN := Lib.hid notnan_str
  unfold kcmp klt
  by_cases h1 : Op.bytesLess a.toList b.toList = true
  · rw [if_pos h1]
    go_enter Tryd.func79, Tryd.ntmps79
    go_wp2_with (go_at_call 116; refine (HN.out _ _).mono ?_; rintro e w1 ⟨rfl, rfl⟩)
    go_ret
    exact ⟨rfl, rfl⟩
  rw [if_neg h1]
  have h1 : Op.bytesLess a.toList b.toList = false := by simpa using h1
  by_cases h2 : Op.bytesLess b.toList a.toList = true
  · rw [if_pos h2]
    have he : (a.toList == b.toList) = false := by
      cases e : (a.toList == b.toList)
      · rfl
      · have e2 : a.toList = b.toList := by simpa using e
        have h3 := klt_irrefl b
        unfold klt at h3
        rw [e2, h3] at h2; cases h2
    go_enter Tryd.func79, Tryd.ntmps79
    go_wp2_with (go_at_call 116; refine (HN.out _ _).mono ?_; rintro e w1 ⟨rfl, rfl⟩)
    go_ret
    exact ⟨rfl, rfl⟩
  rw [if_neg h2]
  have h2 : Op.bytesLess b.toList a.toList = false := by simpa using h2
  have he : (a.toList == b.toList) = true := by
    have : a = b := klt_total (a := a) (b := b) h1 h2
    rw [this]; simp
  go_enter Tryd.func79, Tryd.ntmps79
  go_wp2_with (go_at_call 116; refine (HN.out _ _).mono ?_; rintro e w1 ⟨rfl, rfl⟩)
  go_ret
  exact ⟨rfl, rfl⟩
theorem or_of (p : Nat) (a b : Int) (w : World) (h0 : w.cell? ⟨p, 0, none⟩ = some (.int .i64 a)) (h1 : w.cell? ⟨p, 1, none⟩ = some (.int .i64 b)) : Calls Tryd.prog 77 #[.slice (some ⟨p, 0, none⟩) 2 2] w (Gives (.int .i64 (if a = 0 then b else a)) w) := by
  by_cases ha : a = 0
  · rw [if_pos ha]
    subst ha
    by_cases hb : b = 0
    · subst hb
      go_enter Tryd.func77, Tryd.ntmps77
      go_wp2
      refine wp_loop_rounds 3 ?_
      rw [rounds_succ]
      go_wp2
      rw [rounds_succ]
      go_wp2
      rw [rounds_succ]
      go_wp2
      go_ret
      exact ⟨rfl, rfl⟩
    · have hb' : (b != 0) = true := by simpa using hb
      go_enter Tryd.func77, Tryd.ntmps77
      go_wp2
      refine wp_loop_rounds 2 ?_
      rw [rounds_succ]
      go_wp2
      rw [rounds_succ]
      go_wp2
      go_ret
      exact ⟨rfl, rfl⟩
  · rw [if_neg ha]
    have ha' : (a != 0) = true := by simpa using ha
    go_enter Tryd.func77, Tryd.ntmps77
    go_wp2
    refine wp_loop_rounds 1 ?_
    rw [rounds_succ]
    go_wp2
    go_ret
    exact ⟨rfl, rfl⟩
theorem new0 (w : World) (x y : Value) (t : TypeId) (n : Nat) (h : n = w.heap.size) : (w.alloc (.cells #[x, y] t)).cell? ⟨n, 0, none⟩ = some x := by subst h; simp
theorem new1 (w : World) (x y : Value) (t : TypeId) (n : Nat) (h : n = w.heap.size) : (w.alloc (.cells #[x, y] t)).cell? ⟨n, 1, none⟩ = some y := by subst h; simp
theorem fin3 (W : World) (A B C : Obj) : (((W.alloc A).alloc B).drew).alloc C = Go.Sort.grow (W.drewN 1) #[A, B, C] := by
  simp only [Go.Sort.alloc_eq_grow, Go.Sort.drew_grow, Go.Sort.grow_grow]; rfl
theorem or_at (f g : Int) (w : World) (t : TypeId) (n : Nat) (h : n = w.heap.size) : Calls Tryd.prog 77 #[.slice (some ⟨n, 0, none⟩) 2 2] (w.alloc (.cells #[.int .i64 f, .int .i64 g] t)) (Gives (.int .i64 (if f = 0 then g else f)) (w.alloc (.cells #[.int .i64 f, .int .i64 g] t))) :=
  or_of n f g (w.alloc (.cells #[.int .i64 f, .int .i64 g] t)) (new0 w _ _ t n h) (new1 w _ _ t n h)
set_option maxRecDepth 100000 in
set_option maxHeartbeats 1000000 in
theorem closure_of (x y : MTimer) (hx : x.at_ ≤ 9218868437227405312) (hy : y.at_ ≤ 9218868437227405312) (W : World) : Calls Tryd.prog 76 #[timerV x, timerV y] W fun e w' => e = .returned (.int .i64 (tcmp x y)) ∧ ∃ q os', w' = Go.Sort.grow (W.drewN q) os' := by
  have hO := fun W => (forder_le x.at_ y.at_ hx hy) ▸ forder_of x.at_ y.at_ (delay_of_le _ hx).1 (delay_of_le _ hy).1 W
  have HO := Lib.hid hO
  have HS := Lib.hid (fun W => cmpStr_of x.key y.key W)
  unfold tcmp
  obtain ⟨k, a, n, b, m⟩ := x
  obtain ⟨k', a', n', b', m'⟩ := y
  simp only at *
  generalize fcp (a : Int) (a' : Int) = f at *
  generalize kcmp k k' = g at *
  obtain ⟨r, hr⟩ : ∃ r, r = (if f = 0 then g else f) := ⟨_, rfl⟩
  have hR : ∀ (w : World), W.heap.size + 1 + 1 = w.heap.size → Calls Tryd.prog 77 #[.slice (some ⟨W.heap.size + 1 + 1, 0, none⟩) 2 2] (w.alloc (.cells #[.int .i64 f, .int .i64 g] 3)) (Gives (.int .i64 r) (w.alloc (.cells #[.int .i64 f, .int .i64 g] 3))) := fun w e => by
    rw [hr]
    exact or_at f g w 3 _ e
  rw [← hr]
  have HR := Lib.hid hR
  clear hO hx hy hr hR
  go_enter Tryd.func76, Tryd.ntmps76
  go_wp2
  generalize hW2 : (W.alloc (.cells #[.string k, .float .f64 a, .int .i64 n, .float .f64 b, .float .f64 m] 135)).alloc (.cells #[.string k', .float .f64 a', .int .i64 n', .float .f64 b', .float .f64 m'] 135) = W2 at *
  have q0 : ∀ i, W2.drew.cell? ⟨W.heap.size, i, none⟩ = #[Value.string k, .float .f64 a, .int .i64 n, .float .f64 b, .float .f64 m][i]? := by
    subst hW2
    exact ((Blk.fresh W _ _ _ rfl).alloc _).cell
  have q1 : ∀ i, W2.drew.cell? ⟨W.heap.size + 1, i, none⟩ = #[Value.string k', .float .f64 a', .int .i64 n', .float .f64 b', .float .f64 m'][i]? := by
    subst hW2
    exact (Blk.fresh (W.alloc _) _ _ _ (by simp)).cell
  go_still_tail 10, (by kernel_rfl)
  still_call ((HO.out _).mono fun _ _ h => ⟨h.1, h.2.symm⟩)
  repeat still_step
  still_call ((HS.out _).mono fun _ _ h => ⟨h.1, h.2.symm⟩)
  refine wpStill_nil ?_
  have hs2 : W.heap.size + 1 + 1 = W2.drew.heap.size := by subst hW2; simp
  have hfin : ∃ q os', W2.drew.alloc (.cells #[.int .i64 f, .int .i64 g] 3) = Go.Sort.grow (W.drewN q) os' := by
    subst hW2
    exact ⟨1, _, fin3 W _ _ _⟩
  have hR2 := HR.out W2.drew hs2
  rw [hs2] at hR2
  change wpList _ _ _ _ _ W2.drew
  have HF := Lib.hid hfin
  have HR2 := Lib.hid hR2
  clear q0 q1 HO HS hW2 hR2 hfin HR
  generalize W2.drew = W3 at *
  go_wp2_with fail
  refine HR2.out.mono ?_; rintro e w4 ⟨rfl, rfl⟩
  go_wp2_with fail
  go_ret
  exact ⟨rfl, HF.out⟩
end Go.Proofs.YtkidljiffeonjaaDoor
