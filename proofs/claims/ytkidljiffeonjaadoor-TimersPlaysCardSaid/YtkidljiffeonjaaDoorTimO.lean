/- The chapter's example. -/
import Derived.Test.YtkidljiffeonjaaDoorRows
import Derived.WalkKit
import Derived.WalkSpells
import Derived.WalkLawsBesides
import Derived.BigQuiet
import Derived.Deep.QuietTactic
import Derived.StillTailTactics
import Derived.Handy
import Derived.Lib.Hide
import Derived.Test.YtkidljiffeonjaaDoorTimN
import Derived.Test.YtkidljiffeonjaaDoorTimF
set_option linter.unusedSimpArgs false
set_option linter.unusedVariables false
namespace Go.Proofs.YtkidljiffeonjaaDoor
open Go.RowKit Go.Maps

abbrev kA : ByteArray := { data := #[97] }
abbrev aT (n : Int) (x : Nat) : MTimer := ⟨kA, x, n, 4607182418800017408, 4617315517961601024⟩
theorem alive_0 : tput [] (tnew 0 kA 4607182418800017408 4617315517961601024) = [aT 0 4607182418800017408] := by kernel_rfl
theorem alive_t : fsum 0 (fplain 4607182418800017408) = 4607182418800017408 := by kernel_rfl
theorem alive_1 : tput [aT 0 4607182418800017408] (tagain 4607182418800017408 (aT 0 4607182418800017408)) = [aT 1 4613937818241073152] := by kernel_rfl
theorem alive_2 : tput [aT 1 4613937818241073152] (tagain 4607182418800017408 (aT 1 4613937818241073152)) = [aT 2 4617315517961601024] := by kernel_rfl
theorem alive_3 : tput [aT 2 4617315517961601024] (tagain 4607182418800017408 (aT 2 4617315517961601024)) = [aT 3 4618441417868443648] := by kernel_rfl
theorem alive_d : (tdue 4607182418800017408 [aT 0 4607182418800017408]).map (·.key) = [kA] := by kernel_rfl
theorem alive_f (n : Int) (x : Nat) : tfind [aT n x] kA = some (aT n x) := by simp [tfind]
theorem Two.toBelow {c b B : Nat} {w w' : World} (h : Two c b w w') (hB : B ≤ w.heap.size) (hc : B ≤ c) (hb : B ≤ b) : Below B w w' := h.below hB hc hb
set_option maxRecDepth 100000 in
theorem tagain_of (c b now : Nat) (L : List MTimer) (t u : MTimer) (w : World) (h : ClockAt c b now L w) (hl : L.length ≤ 64) (hf : tfind L kA = some t) (hu : tfind (tput L (tagain now t)) kA = some u) :
    Calls Tryd.prog 71 #[.pointer (some ⟨c, 0, none⟩)] w fun e w' => e = .returned (.tuple #[.float .f64 u.at_, .int .i64 u.times, .bool true]) ∧ ClockAt c b now (tput L (tagain now t)) w' ∧ Two c b w w' := by
  have hk : kA.size ≤ maxLen := by decide
  have HA := Lib.hid (fun W hW => again_yes c b now L kA t W hW (Nat.lt_of_le_of_lt hl (by decide)) hk hf)
  have HT := Lib.hid (fun W hW => at_at c b now (tput L (tagain now t)) kA W hW hk)
  rw [hu] at HT
  have HC := Lib.hid h
  clear h hf hu hk
  obtain ⟨k, x, n, bs, m⟩ := u
  simp only [Option.getD_some, Option.isSome_some] at HT ⊢
  go_enter Tryd.func71, Tryd.ntmps71
  go_wp2_with fail
  refine (HA.out _ HC.out).mono ?_; rintro e w1 ⟨rfl, hc1, ht1⟩
  have HC1 := Lib.hid hc1
  clear hc1
  go_wp2_with fail
  refine (HT.out _ HC1.out).mono ?_; rintro e w2 ⟨rfl, hb2⟩
  go_wp2_with fail
  go_ret3
  exact ⟨rfl, HC1.out.below hb2, ht1.trans (Two.of_below hb2)⟩
theorem cells3 (w : World) (x y z : Value) (t : TypeId) (n : Nat) (h : n = w.heap.size) : ∀ i, (w.alloc (.cells #[x, y, z] t)).cell? ⟨n, i, none⟩ = #[x, y, z][i]? := by subst h; exact (Blk.fresh w _ _ _ rfl).cell
theorem Blk.two {c b p : Nat} {C : Array Value} {w w' : World} (h : Blk w p C) (ht : Two c b w w') (hc : p ≠ c) (hb : p ≠ b) : Blk w' p C :=
  ⟨Nat.lt_of_lt_of_le h.lt ht.size, fun i => (World.cell?_of_block (a := ⟨p, i, none⟩) (ht.block p h.lt hc hb)).trans (h.cell i), fun i => (World.frozen?_of_block (a := ⟨p, i, none⟩) (ht.block p h.lt hc hb)).trans (h.free i)⟩
theorem ClockAt.lts {c b now : Nat} {L : List MTimer} {w : World} (h : ClockAt c b now L w) : c < w.heap.size ∧ b < w.heap.size := by
  obtain ⟨D, _, h2⟩ := h.ex
  exact ⟨h2.blk.lt, h2.own.lt⟩
set_option maxRecDepth 100000 in
set_option maxHeartbeats 2000000 in
theorem alive_of (w : World) : Calls Tryd.prog 30 #[] w (Makes (.bool true) w) := by
  have hk : kA.size ≤ maxLen := by decide
  have fB : F64 4607182418800017408 := by unfold F64; omega
  have fM : F64 4617315517961601024 := by unfold F64; omega
  have dB : fdelay 4607182418800017408 = true := by decide +kernel
  have dM : fdelay 4617315517961601024 = true := by decide +kernel
  have HS := Lib.hid (fun c b W hW => set_room c b 0 [] kA _ _ W hW hk rfl (by decide) fB fM dB dM)
  rw [alive_0] at HS
  have HT := Lib.hid (fun c b W hW => tick_at c b 0 _ [aT 0 4607182418800017408] W hW fB dB)
  rw [alive_t] at HT
  have HD := Lib.hid (fun c b W hW => due_at c b 4607182418800017408 [aT 0 4607182418800017408] W hW (by decide))
  rw [alive_d] at HD
  have H1 := Lib.hid (fun c b W hW => tagain_of c b 4607182418800017408 [aT 0 4607182418800017408] _ (aT 1 4613937818241073152) W hW (by decide) (alive_f _ _) (by rw [alive_1]; exact alive_f _ _))
  rw [alive_1] at H1
  have H2 := Lib.hid (fun c b W hW => tagain_of c b 4607182418800017408 [aT 1 4613937818241073152] _ (aT 2 4617315517961601024) W hW (by decide) (alive_f _ _) (by rw [alive_2]; exact alive_f _ _))
  rw [alive_2] at H2
  have H3 := Lib.hid (fun c b W hW => tagain_of c b 4607182418800017408 [aT 2 4617315517961601024] _ (aT 3 4618441417868443648) W hW (by decide) (alive_f _ _) (by rw [alive_3]; exact alive_f _ _))
  rw [alive_3] at H3
  clear hk fB fM dB dM
  go_enter Tryd.func30, Tryd.ntmps30
  go_wp2_with fail
  refine (new_of _).mono ?_; rintro e w1 ⟨c, b, rfl, hc1, hb1, lc, lb⟩
  have HC1 := Lib.hid hc1
  clear hc1
  go_wp2_with fail
  refine (HS.out c b _ HC1.out).mono ?_; rintro e w2 ⟨rfl, hc2, ht2⟩
  have HC2 := Lib.hid hc2
  have hb2 : Below w.heap.size w w2 := hb1.trans (ht2.below hb1.size lc lb)
  clear hc2 ht2 HC1
  go_wp2_with fail
  refine (HT.out c b _ HC2.out).mono ?_; rintro e w3 ⟨rfl, hc3, ht3⟩
  have HC3 := Lib.hid hc3
  have hb3 : Below w.heap.size w w3 := hb2.trans (ht3.below hb2.size lc lb)
  clear hc3 ht3 HC2
  go_wp2_with fail
  refine (HD.out c b _ HC3.out).mono ?_; rintro e w4 ⟨vd, rfl, hd, hb4⟩
  obtain ⟨a4, cap4, rfl⟩ := own_slice hd
  have HC4 := Lib.hid (HC3.out.below hb4)
  have hb4 : Below w.heap.size w w4 := below_then hb3 hb4
  clear HC3 hd
  go_wp2_with fail
  have e1 : FloatKind.f64.format.order 4613937818241073152 4613937818241073152 = some .eq := by kernel_rfl
  have e2 : FloatKind.f64.format.order 4617315517961601024 4617315517961601024 = some .eq := by kernel_rfl
  have e3 : FloatKind.f64.format.order 4618441417868443648 4618441417868443648 = some .eq := by kernel_rfl
  obtain ⟨l1, l2⟩ := HC4.out.lts
  obtain ⟨W5, hW5⟩ : ∃ W5, W5 = w4.alloc (.cells #[.float .f64 4613937818241073152, .float .f64 4617315517961601024, .float .f64 4618441417868443648] 22) := ⟨_, rfl⟩
  rw [← hW5]
  have HQ5 : Hid (Blk W5 w4.heap.size #[.float .f64 4613937818241073152, .float .f64 4617315517961601024, .float .f64 4618441417868443648]) := Lib.hid (hW5 ▸ Blk.fresh w4 _ _ _ rfl)
  have HC5 : Hid (ClockAt c b 4607182418800017408 [aT 0 4607182418800017408] W5) := Lib.hid (HC4.out.below (hW5 ▸ (Below.refl _ _).alloc (Nat.le_refl _) _))
  have hb5 : Below w.heap.size w W5 := hW5 ▸ hb4.alloc hb4.size _
  clear hW5 HC4 hb1 hb2 hb3
  have q1 := HQ5.out.cell 0
  simp only [List.getElem?_toArray, List.getElem?_cons_zero] at q1
  refine wp_loop_rounds 4 ?_
  rw [rounds_succ]
  go_wp2_with fail
  refine (H1.out c b _ HC5.out).mono ?_; rintro e w6 ⟨rfl, hc6, ht6⟩
  have HC6 := Lib.hid hc6
  have HQ6 := Lib.hid (HQ5.out.two ht6 (by omega) (by omega))
  have hb6 : Below w.heap.size w w6 := hb5.trans (ht6.below hb5.size lc lb)
  clear hc6 ht6 HC5 q1 HQ5 hb5
  have q1 := HQ6.out.cell 1
  simp only [List.getElem?_toArray, List.getElem?_cons_zero, List.getElem?_cons_succ] at q1
  go_wp2_with fail
  rw [rounds_succ]
  go_wp2_with fail
  refine (H2.out c b _ HC6.out).mono ?_; rintro e w7 ⟨rfl, hc7, ht7⟩
  have HC7 := Lib.hid hc7
  have HQ7 := Lib.hid (HQ6.out.two ht7 (by omega) (by omega))
  have hb7 : Below w.heap.size w w7 := hb6.trans (ht7.below hb6.size lc lb)
  clear hc7 ht7 HC6 q1 HQ6 hb6
  have q1 := HQ7.out.cell 2
  simp only [List.getElem?_toArray, List.getElem?_cons_zero, List.getElem?_cons_succ] at q1
  go_wp2_with fail
  rw [rounds_succ]
  go_wp2_with fail
  refine (H3.out c b _ HC7.out).mono ?_; rintro e w8 ⟨rfl, hc8, ht8⟩
  have hb8 : Below w.heap.size w w8 := hb7.trans (ht8.below hb7.size lc lb)
  clear hc8 ht8 HC7 q1 HQ7 hb7
  go_wp2_with fail
  rw [rounds_succ]
  go_wp2_with fail
  go_ret
  exact ⟨rfl, hb8⟩
end Go.Proofs.YtkidljiffeonjaaDoor
