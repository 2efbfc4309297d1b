/- liaisonlaw13.TimersPlays, walked: it answers true at every script. -/
import Derived.Test.YtkidljiffeonjaaDoorRows
import Derived.WalkKit
import Derived.WalkSpells
import Derived.WalkLawsBesides
import Derived.BigQuiet
import Derived.Deep.QuietTactic
import Derived.StillTailTactics
import Derived.Handy
import Derived.Lib.Hide
import Derived.Test.YtkidljiffeonjaaDoorTimUM
import Derived.Deep.RegionWith
import Derived.Deep.CutRange
set_option linter.unusedSimpArgs false
set_option linter.unusedVariables false
namespace Go.Proofs.YtkidljiffeonjaaDoor
open Go.RowKit
attribute [local go_sem] store_float

/-- both clocks hold the same timers; the op lies in its block -/
def PDone (c b B m p : Nat) (C : Array Value) (w W : World) : Prop := ∃ now L v, L.length ≤ 64 ∧ ClockAt c b now L W ∧ RefAt B m v now L W ∧ Below w.heap.size w W ∧ Blk W p C
theorem tdue_len (now : Nat) {L : List MTimer} (h : TApart L) (hl : L.length ≤ 64) : ((tdue now L).map (·.key)).length ≤ 1000 := by
  rw [List.length_map, (tdue_spec now h).2.length_eq]
  exact Nat.le_trans (List.length_filter_le _ _) (by omega)
set_option maxRecDepth 100000 in
set_option maxHeartbeats 16000000 in
theorem law_plays (v0 : Value) (ops : List TOp) (ea : Int → Addr) (w : World) (hE : Errs ea w) (hR : ReadT w v0 ops) (hG : ∀ o ∈ ops, TOpGood o) : Calls Tryd.prog 9 #[v0] w (Makes (.bool true) w) := by
  have HL := Lib.hid (fun W hW => long_of ops v0 W (hR.below hW))
  obtain ⟨a, cap, rfl, hc⟩ := hR
  have HC := Lib.hid hc; clear hc
  have HG := Lib.hid hG; clear hG
  have HE := Lib.hid (fun W (hW : Below w.heap.size w W) => hE.below hW); clear hE
  obtain ⟨n, hn⟩ : ∃ n, n = ops.length := ⟨_, rfl⟩
  rw [← hn] at HL ⊢
  have HN := Lib.hid hn; clear hn
  go_enter Tryd.func9, Tryd.ntmps9
  go_wp2_with fail
  refine (alive_of _).mono ?_; rintro e w1 ⟨rfl, hb1⟩
  go_wp2_with fail
  refine (HL.out _ hb1).mono ?_; rintro e w2 ⟨lg, rfl, hlg, hb2⟩
  have hB2 := below_then hb1 hb2
  have HLG := Lib.hid hlg
  clear hlg hb1 hb2 HL
  cases lg
  case true =>
    go_wp2_with fail
    go_ret
    exact ⟨rfl, hB2⟩
  have HSz := Lib.hid (HLG.out rfl); clear HLG
  have hn120 : n ≤ 120 := by rw [HN.out]; exact HSz.out.1
  go_wp2_with fail
  refine (new_of _).mono ?_; rintro e w3 ⟨c, b, rfl, hc3, hb3, lc, lb⟩
  have HC3 := Lib.hid (hc3.below ((Below.refl _ w3).alloc (Nat.le_refl _) (.cells #[.float .f64 0, .slice none 0 0] 95)))
  have cB := hc3.lts.1
  have bB := hc3.lts.2
  have hB3 : Below w.heap.size w (w3.alloc (.cells #[.float .f64 0, .slice none 0 0] 95)) := (below_then hB2 hb3).alloc (below_then hB2 hb3).size _
  have lc : w.heap.size ≤ c := Nat.le_trans hB2.size lc
  have lb : w.heap.size ≤ b := Nat.le_trans hB2.size lb
  have hr3 : RefAt w3.heap.size w3.heap.size (.slice none 0 0) 0 [] (w3.alloc (.cells #[.float .f64 0, .slice none 0 0] 95)) := ⟨Nat.le_refl _, Blk.fresh w3 _ _ _ rfl, World.ownsRow_nil _ _ _ _, by simp [Value.ownBlock]⟩
  have HR3 := Lib.hid hr3
  clear hc3 hb3 hB2 hr3
  go_wp2_with fail
  obtain ⟨m, hm⟩ : ∃ m, m = w3.heap.size := ⟨_, rfl⟩
  obtain ⟨W3, hW3⟩ : ∃ W3, W3 = w3.alloc (.cells #[.float .f64 0, .slice none 0 0] 95) := ⟨_, rfl⟩
  rw [← hW3] at HC3 HR3 hB3 ⊢
  rw [← hm] at HR3 cB bB ⊢
  clear hm hW3
  go_loopw [24] (fun i wr => ∃ (k now : Nat) (L : List MTimer) (v : Value), k ≤ n ∧ i = .int .i64 k ∧ L.length ≤ 64 ∧ Hid (ClockAt c b now L wr) ∧ Hid (RefAt m m v now L wr) ∧ Below w.heap.size w wr) (fun i _ => n - (intOf i).toNat)
  case atStart => exact ⟨0, 0, [], _, by omega, rfl, by simp, HC3, HR3, hB3⟩
  case round =>
    obtain ⟨k, now, L, v, hk, rfl, hl, HCk, HRf, hB⟩ := hrel
    have hzB := hB.size
    by_cases hlt : k < n
    · have hlt' : k < ops.length := by rw [← HN.out]; exact hlt
      obtain ⟨ob, off, rfl, hbl, hops⟩ := HC.out (by intro e; rw [e] at hlt'; simp at hlt')
      have hoa := (hops k hlt').below hB hbl
      have HOG := Lib.hid (HG.out _ (List.getElem_mem hlt'))
      have HKS := Lib.hid (HSz.out.2 _ (List.getElem_mem hlt'))
      generalize ops[k] = o at *
      obtain ⟨kd, key, x, y⟩ := o
      obtain ⟨a0, a1, a2, a3⟩ := hoa
      dsimp only at a0 a1 a2 a3 HKS
      have hki : (k : Int) < (n : Int) := by omega
      have hk0 : (0 : Int) ≤ (k : Int) := by omega
      have HStep := Lib.hid (fun W (h1 : ClockAt c b now L W) (h2 : RefAt m m v now L W) (h3 : Below w.heap.size w W) => step_of c b m m now v L kd key x y ea w W ⟨lc, lb, cB, bB, Nat.le_refl _, h2.blk.lt, fun k hk => (h2.own.lt k hk).2⟩ h1 h2 h3 hl HE.out HOG.out.1 HOG.out.2.1 HOG.out.2.2)
      obtain ⟨p, hp⟩ : ∃ p, p = wr.heap.size := ⟨_, rfl⟩
      have HPm : Hid (m < p) := Lib.hid (by rw [hp]; exact HRf.out.blk.lt)
      have HPv : Hid (∀ k, v.ownBlock = some k → k < p) := Lib.hid (fun k hk => by rw [hp]; exact (HRf.out.own.lt k hk).2)
      have HO := Lib.hid (Blk.fresh wr #[.int .i64 kd, .string key, .float .f64 x, .float .f64 y] 97 _ rfl)
      have hAl : Below wr.heap.size wr (wr.alloc (.cells #[.int .i64 kd, .string key, .float .f64 x, .float .f64 y] 97)) := (Below.refl _ _).alloc (Nat.le_refl _) _
      have HCa := Lib.hid (HCk.out.below hAl)
      have HRa := Lib.hid (HRf.out.below hAl)
      have HBa := Lib.hid (below_then hB hAl)
      clear hops HCk HRf hAl HOG
      go_wp2_with fail
      obtain ⟨W4, hW4⟩ : ∃ W4, W4 = wr.alloc (.cells #[.int .i64 kd, .string key, .float .f64 x, .float .f64 y] 97) := ⟨_, rfl⟩
      rw [← hW4] at HCa HRa HBa HO ⊢
      rw [← hp] at HO ⊢
      clear hW4 hp a0 a1 a2 a3
      go_cut [60] from 28 to 60 (fun s60 wx => s60 = .bool false ∧ PDone c b m m p #[.int .i64 kd, .string key, .float .f64 x, .float .f64 y] w wx)
      case first =>
        have qo := HO.out.cell
        clear HC HN HG HSz HKS hki hk0 hlt hk hl hbl hlt' hzB hB lc lb hB3 HC3 HR3
        refine wp_region_held_drew (S := fun w' => w'.cell? ⟨p, 0, none⟩ = some (.int .i64 kd) ∧ w'.cell? ⟨p, 1, none⟩ = some (.string key) ∧ w'.cell? ⟨p, 2, none⟩ = some (.float .f64 x) ∧ w'.cell? ⟨p, 3, none⟩ = some (.float .f64 y)) (by kernel_rfl) ⟨qo 0, qo 1, qo 2, qo 3⟩ (fun hHeld => ?_)
        refine wpAnyH_takeAt (v := ?_) (d := some 28) (oi := { dst := some 28, op := Op.move (Operand.tmp 3), type := 70, pos := "law.go:90", after := #[], guard := none }) 0 rfl rfl (by kernel_rfl) (by kernel_rfl) (by kernel_rfl) (fun _ _ _ h => h) hHeld (by rfl) ?_ ?_
        rotate_left 1
        · (intro w' hS'; (try dsimp only at hS'); go_simp; (try with_reducible rfl))
        simp only [Act.put, List.setIfInBounds_toArray, List.set_cons_zero, List.set_cons_succ]
        refine wpAnyH_takeAt (v := ?_) (d := some 29) (oi := { dst := some 29, op := Op.move (Operand.tmp 4), type := 92, pos := "law.go:90", after := #[], guard := none }) 1 rfl rfl (by kernel_rfl) (by kernel_rfl) (by kernel_rfl) (fun _ _ _ h => h) hHeld (by rfl) ?_ ?_
        rotate_left 1
        · (intro w' hS'; (try dsimp only at hS'); go_simp; (try with_reducible rfl))
        simp only [Act.put, List.setIfInBounds_toArray, List.set_cons_zero, List.set_cons_succ]
        refine wpAnyH_takeAt (v := ?_) (d := some 30) (oi := { dst := some 30, op := Op.load 97 (Operand.tmp 6), type := 97, pos := "law.go:90", after := #[], guard := none }) 2 rfl rfl (by kernel_rfl) (by kernel_rfl) (by kernel_rfl) (fun _ _ _ h => h) hHeld (by rfl) ?_ ?_
        rotate_left 1
        · (intro w' hS'; (try dsimp only at hS'); go_simp; (try with_reducible rfl))
        simp only [Act.put, List.setIfInBounds_toArray, List.set_cons_zero, List.set_cons_succ]
        refine wpAnyH_call (d := some 31) (oi := { dst := some 31, op := Op.call { callee := Callee.value (Operand.func 42), args := #[Operand.tmp 28, Operand.tmp 29, Operand.tmp 30], argTypes := #[70, 92, 97] }, type := 4, pos := "law.go:90", after := #[{ on := 0, ground := Ground.data }, { on := 1, ground := Ground.data }, { on := 2, ground := Ground.data }], guard := none }) 3 42 _ _ [.pointer (some ⟨c, 0, none⟩), .pointer (some ⟨m, 0, none⟩), .agg #[.int .i64 kd, .string key, .float .f64 x, .float .f64 y]] rfl rfl (by kernel_rfl) rfl (enters_of Tryd.func42 (by kernel_rfl) rfl) (by rfl) (by rfl) ?_
        refine (HStep.out _ (HCa.out.below (by go_grown)) (HRa.out.below (by go_grown)) (below_then HBa.out (by go_grown))).mono ?_; rintro e w5 ⟨rfl, now2, L2, v2, hl2, ck2, rf2, go2, be2⟩
        have HO := Lib.hid (HO.out.drew.keep go2.size (go2.block p HO.out.drew.lt (by have := HPm.out; omega) (by have := HPm.out; omega) (by have := HPm.out; omega) (fun e => by have := HPv.out _ e; omega)))
        clear qo hHeld
        obtain ⟨a5, cap5, rfl⟩ := own_slice rf2.own
        have HDl := Lib.hid (tdue_len now2 ck2.apart hl2)
        have HC4 := Lib.hid ck2; have HR4 := Lib.hid rf2; have HB4 := Lib.hid be2
        clear ck2 rf2 be2 go2
        have hnn : ((L2.length : Int) != (L2.length : Int)) = false := by simp
        refine ⟨_, rfl, fun w' => ((w'.cell? ⟨p, 0, none⟩ = some (.int .i64 kd) ∧ w'.cell? ⟨p, 1, none⟩ = some (.string key) ∧ w'.cell? ⟨p, 2, none⟩ = some (.float .f64 x) ∧ w'.cell? ⟨p, 3, none⟩ = some (.float .f64 y)) ∧ w'.cell? ⟨m, 0, none⟩ = some (.float .f64 now2) ∧ w'.cell? ⟨m, 1, none⟩ = some (.slice a5 L2.length cap5)), fun _ h => h.1, (⟨⟨HO.out.cell 0, HO.out.cell 1, HO.out.cell 2, HO.out.cell 3⟩, HR4.out.blk.cell 0, HR4.out.blk.cell 1⟩ : (fun w' : World => ((w'.cell? ⟨p, 0, none⟩ = some (.int .i64 kd) ∧ w'.cell? ⟨p, 1, none⟩ = some (.string key) ∧ w'.cell? ⟨p, 2, none⟩ = some (.float .f64 x) ∧ w'.cell? ⟨p, 3, none⟩ = some (.float .f64 y)) ∧ w'.cell? ⟨m, 0, none⟩ = some (.float .f64 now2) ∧ w'.cell? ⟨m, 1, none⟩ = some (.slice a5 L2.length cap5))) w5), fun hHeld => ?_⟩
        simp only [Act.put, List.setIfInBounds_toArray, List.set_cons_zero, List.set_cons_succ]
        refine wpAnyH_takeAt (v := ?_) (d := some 32) (oi := { dst := some 32, op := Op.unOp UnOp.not 4 (Operand.tmp 31), type := 4, pos := "law.go:90", after := #[{ on := 3, ground := Ground.data }], guard := none }) 4 rfl rfl (by kernel_rfl) (by kernel_rfl) (by kernel_rfl) (fun _ _ _ h => h) hHeld (by rfl) ?_ ?_
        rotate_left 1
        · (intro w' hS'; (try dsimp only at hS'); go_simp; (try with_reducible rfl))
        simp only [Act.put, List.setIfInBounds_toArray, List.set_cons_zero, List.set_cons_succ]
        refine wpAnyH_takeAt (v := ?_) (d := some 33) (oi := { dst := some 33, op := Op.move (Operand.tmp 32), type := 4, pos := "law.go:90", after := #[{ on := 4, ground := Ground.data }, { on := 3, ground := Ground.chain }], guard := none }) 5 rfl rfl (by kernel_rfl) (by kernel_rfl) (by kernel_rfl) (fun _ _ _ h => h) hHeld (by rfl) ?_ ?_
        rotate_left 1
        · (intro w' hS'; (try dsimp only at hS'); go_simp; (try with_reducible rfl))
        simp only [Act.put, List.setIfInBounds_toArray, List.set_cons_zero, List.set_cons_succ]
        refine wpAnyH_takeAt (v := ?_) (d := some 34) (oi := { dst := some 34, op := Op.move (Operand.tmp 3), type := 70, pos := "law.go:90", after := #[{ on := 5, ground := Ground.guard }], guard := some (5, false) }) 6 rfl rfl (by kernel_rfl) (by kernel_rfl) (by kernel_rfl) (fun _ _ _ h => h) hHeld (by rfl) ?_ ?_
        rotate_left 1
        · (intro w' hS'; (try dsimp only at hS'); go_simp; (try with_reducible rfl))
        simp only [Act.put, List.setIfInBounds_toArray, List.set_cons_zero, List.set_cons_succ]
        refine wpAnyH_takeAt (v := ?_) (d := some 36) (oi := { dst := some 36, op := Op.move (Operand.tmp 4), type := 92, pos := "law.go:90", after := #[{ on := 5, ground := Ground.guard }], guard := some (5, false) }) 8 rfl rfl (by kernel_rfl) (by kernel_rfl) (by kernel_rfl) (fun _ _ _ h => h) hHeld (by rfl) ?_ ?_
        rotate_left 1
        · (intro w' hS'; (try dsimp only at hS'); go_simp; (try with_reducible rfl))
        simp only [Act.put, List.setIfInBounds_toArray, List.set_cons_zero, List.set_cons_succ]
        refine wpAnyH_takeAt (v := ?_) (d := some 37) (oi := { dst := some 37, op := Op.nilCheck (Operand.tmp 36), type := 0, pos := "law.go:90", after := #[{ on := 8, ground := Ground.data }, { on := 5, ground := Ground.guard }], guard := some (5, false) }) 9 rfl rfl (by kernel_rfl) (by kernel_rfl) (by kernel_rfl) (fun _ _ _ h => h) hHeld (by rfl) ?_ ?_
        rotate_left 1
        · (intro w' hS'; (try dsimp only at hS'); go_simp; (try with_reducible rfl))
        simp only [Act.put, List.setIfInBounds_toArray, List.set_cons_zero, List.set_cons_succ]
        refine wpAnyH_takeAt (v := ?_) (d := some 38) (oi := { dst := some 38, op := Op.fieldAddr 95 (Operand.tmp 37) 0, type := 0, pos := "law.go:90", after := #[{ on := 9, ground := Ground.data }, { on := 5, ground := Ground.guard }], guard := some (5, false) }) 10 rfl rfl (by kernel_rfl) (by kernel_rfl) (by kernel_rfl) (fun _ _ _ h => h) hHeld (by rfl) ?_ ?_
        rotate_left 1
        · (intro w' hS'; (try dsimp only at hS'); go_simp; (try with_reducible rfl))
        simp only [Act.put, List.setIfInBounds_toArray, List.set_cons_zero, List.set_cons_succ]
        refine wpAnyH_takeAt (v := ?_) (d := some 39) (oi := { dst := some 39, op := Op.load 22 (Operand.tmp 38), type := 22, pos := "law.go:90", after := #[{ on := 10, ground := Ground.data }, { on := 5, ground := Ground.guard }], guard := some (5, false) }) 11 rfl rfl (by kernel_rfl) (by kernel_rfl) (by kernel_rfl) (fun _ _ _ h => h) hHeld (by rfl) ?_ ?_
        rotate_left 1
        · (intro w' hS'; (try dsimp only at hS'); go_simp; (try with_reducible rfl))
        simp only [Act.put, List.setIfInBounds_toArray, List.set_cons_zero, List.set_cons_succ]
        refine wpAnyH_call (d := some 35) (oi := { dst := some 35, op := Op.call { callee := Callee.value (Operand.func 37), args := #[Operand.tmp 34], argTypes := #[70] }, type := 22, pos := "law.go:90", after := #[{ on := 6, ground := Ground.data }, { on := 5, ground := Ground.chain }, { on := 5, ground := Ground.guard }], guard := some (5, false) }) 7 37 _ _ [.pointer (some ⟨c, 0, none⟩)] rfl rfl (by kernel_rfl) rfl (enters_of Tryd.func37 (by kernel_rfl) rfl) (by rfl) (by rfl) ?_
        refine (now_at c b now2 L2 _ HC4.out).mono ?_; rintro e w5 ⟨rfl, rfl⟩
        refine ⟨_, rfl, _, fun _ h => h, hHeld, fun hHeld => ?_⟩
        simp only [Act.put, List.setIfInBounds_toArray, List.set_cons_zero, List.set_cons_succ]
        refine wpAnyH_call (d := some 40) (oi := { dst := some 40, op := Op.call { callee := Callee.value (Operand.func 43), args := #[Operand.tmp 35, Operand.tmp 39], argTypes := #[22, 22] }, type := 4, pos := "law.go:90", after := #[{ on := 7, ground := Ground.data }, { on := 11, ground := Ground.data }, { on := 7, ground := Ground.chain }, { on := 5, ground := Ground.guard }], guard := some (5, false) }) 12 43 _ _ [flV now2, flV now2] rfl rfl (by kernel_rfl) rfl (enters_of Tryd.func43 (by kernel_rfl) rfl) (by rfl) (by rfl) ?_
        refine (raw_same now2 _).mono ?_; rintro e w5 ⟨rfl, rfl⟩
        refine ⟨_, rfl, _, fun _ h => h, hHeld, fun hHeld => ?_⟩
        simp only [Act.put, List.setIfInBounds_toArray, List.set_cons_zero, List.set_cons_succ]
        refine wpAnyH_takeAt (v := ?_) (d := some 41) (oi := { dst := some 41, op := Op.unOp UnOp.not 4 (Operand.tmp 40), type := 4, pos := "law.go:90", after := #[{ on := 12, ground := Ground.data }, { on := 5, ground := Ground.guard }], guard := some (5, false) }) 13 rfl rfl (by kernel_rfl) (by kernel_rfl) (by kernel_rfl) (fun _ _ _ h => h) hHeld (by rfl) ?_ ?_
        rotate_left 1
        · (intro w' hS'; (try dsimp only at hS'); go_simp; (try with_reducible rfl))
        simp only [Act.put, List.setIfInBounds_toArray, List.set_cons_zero, List.set_cons_succ]
        refine wpAnyH_takeAt (v := ?_) (d := some 42) (oi := { dst := some 42, op := Op.pick (Operand.tmp 33) (Operand.const (Value.bool true)) (Operand.tmp 41), type := 4, pos := "law.go:90", after := #[{ on := 5, ground := Ground.data }, { on := 13, ground := Ground.data }], guard := none }) 14 rfl rfl (by kernel_rfl) (by kernel_rfl) (by kernel_rfl) (fun _ _ _ h => h) hHeld (by rfl) ?_ ?_
        rotate_left 1
        · (intro w' hS'; (try dsimp only at hS'); go_simp; (try with_reducible rfl))
        simp only [Act.put, List.setIfInBounds_toArray, List.set_cons_zero, List.set_cons_succ]
        refine wpAnyH_takeAt (v := ?_) (d := some 43) (oi := { dst := some 43, op := Op.move (Operand.tmp 42), type := 4, pos := "law.go:90", after := #[{ on := 14, ground := Ground.data }, { on := 12, ground := Ground.chain }], guard := none }) 15 rfl rfl (by kernel_rfl) (by kernel_rfl) (by kernel_rfl) (fun _ _ _ h => h) hHeld (by rfl) ?_ ?_
        rotate_left 1
        · (intro w' hS'; (try dsimp only at hS'); go_simp; (try with_reducible rfl))
        simp only [Act.put, List.setIfInBounds_toArray, List.set_cons_zero, List.set_cons_succ]
        refine wpAnyH_takeAt (v := ?_) (d := some 44) (oi := { dst := some 44, op := Op.move (Operand.tmp 3), type := 70, pos := "law.go:90", after := #[{ on := 15, ground := Ground.guard }], guard := some (15, false) }) 16 rfl rfl (by kernel_rfl) (by kernel_rfl) (by kernel_rfl) (fun _ _ _ h => h) hHeld (by rfl) ?_ ?_
        rotate_left 1
        · (intro w' hS'; (try dsimp only at hS'); go_simp; (try with_reducible rfl))
        simp only [Act.put, List.setIfInBounds_toArray, List.set_cons_zero, List.set_cons_succ]
        refine wpAnyH_takeAt (v := ?_) (d := some 46) (oi := { dst := some 46, op := Op.move (Operand.tmp 4), type := 92, pos := "law.go:90", after := #[{ on := 15, ground := Ground.guard }], guard := some (15, false) }) 18 rfl rfl (by kernel_rfl) (by kernel_rfl) (by kernel_rfl) (fun _ _ _ h => h) hHeld (by rfl) ?_ ?_
        rotate_left 1
        · (intro w' hS'; (try dsimp only at hS'); go_simp; (try with_reducible rfl))
        simp only [Act.put, List.setIfInBounds_toArray, List.set_cons_zero, List.set_cons_succ]
        refine wpAnyH_takeAt (v := ?_) (d := some 47) (oi := { dst := some 47, op := Op.nilCheck (Operand.tmp 46), type := 0, pos := "law.go:90", after := #[{ on := 18, ground := Ground.data }, { on := 15, ground := Ground.guard }], guard := some (15, false) }) 19 rfl rfl (by kernel_rfl) (by kernel_rfl) (by kernel_rfl) (fun _ _ _ h => h) hHeld (by rfl) ?_ ?_
        rotate_left 1
        · (intro w' hS'; (try dsimp only at hS'); go_simp; (try with_reducible rfl))
        simp only [Act.put, List.setIfInBounds_toArray, List.set_cons_zero, List.set_cons_succ]
        refine wpAnyH_takeAt (v := ?_) (d := some 48) (oi := { dst := some 48, op := Op.fieldAddr 95 (Operand.tmp 47) 1, type := 0, pos := "law.go:90", after := #[{ on := 19, ground := Ground.data }, { on := 15, ground := Ground.guard }], guard := some (15, false) }) 20 rfl rfl (by kernel_rfl) (by kernel_rfl) (by kernel_rfl) (fun _ _ _ h => h) hHeld (by rfl) ?_ ?_
        rotate_left 1
        · (intro w' hS'; (try dsimp only at hS'); go_simp; (try with_reducible rfl))
        simp only [Act.put, List.setIfInBounds_toArray, List.set_cons_zero, List.set_cons_succ]
        refine wpAnyH_takeAt (v := ?_) (d := some 49) (oi := { dst := some 49, op := Op.load 93 (Operand.tmp 48), type := 93, pos := "law.go:90", after := #[{ on := 20, ground := Ground.data }, { on := 15, ground := Ground.guard }], guard := some (15, false) }) 21 rfl rfl (by kernel_rfl) (by kernel_rfl) (by kernel_rfl) (fun _ _ _ h => h) hHeld (by rfl) ?_ ?_
        rotate_left 1
        · (intro w' hS'; (try dsimp only at hS'); go_simp; (try with_reducible rfl))
        simp only [Act.put, List.setIfInBounds_toArray, List.set_cons_zero, List.set_cons_succ]
        refine wpAnyH_takeAt (v := ?_) (d := some 50) (oi := { dst := some 50, op := Op.call { callee := Callee.builtin Builtin.len, args := #[Operand.tmp 49], argTypes := #[93] }, type := 3, pos := "law.go:90", after := #[{ on := 21, ground := Ground.data }, { on := 15, ground := Ground.guard }], guard := some (15, false) }) 22 rfl rfl (by kernel_rfl) (by kernel_rfl) (by kernel_rfl) (fun _ _ _ h => h) hHeld (by rfl) ?_ ?_
        rotate_left 1
        · (intro w' hS'; (try dsimp only at hS'); go_simp; (try with_reducible rfl))
        simp only [Act.put, List.setIfInBounds_toArray, List.set_cons_zero, List.set_cons_succ]
        refine wpAnyH_call (d := some 45) (oi := { dst := some 45, op := Op.call { callee := Callee.value (Operand.func 33), args := #[Operand.tmp 44], argTypes := #[70] }, type := 3, pos := "law.go:90", after := #[{ on := 16, ground := Ground.data }, { on := 15, ground := Ground.chain }, { on := 15, ground := Ground.guard }], guard := some (15, false) }) 17 33 _ _ [.pointer (some ⟨c, 0, none⟩)] rfl rfl (by kernel_rfl) rfl (enters_of Tryd.func33 (by kernel_rfl) rfl) (by rfl) (by rfl) ?_
        refine (len_at c b now2 L2 _ HC4.out).mono ?_; rintro e w5 ⟨rfl, rfl⟩
        refine ⟨_, rfl, _, fun _ h => h, hHeld, fun hHeld => ?_⟩
        simp only [Act.put, List.setIfInBounds_toArray, List.set_cons_zero, List.set_cons_succ]
        refine wpAnyH_takeAt (v := ?_) (d := some 51) (oi := { dst := some 51, op := Op.binOp BinOp.neq 3 (Operand.tmp 45) (Operand.tmp 50) 3, type := 4, pos := "law.go:90", after := #[{ on := 17, ground := Ground.data }, { on := 22, ground := Ground.data }, { on := 15, ground := Ground.guard }], guard := some (15, false) }) 23 rfl rfl (by kernel_rfl) (by kernel_rfl) (by kernel_rfl) (fun _ _ _ h => h) hHeld (by rfl) ?_ ?_
        rotate_left 1
        · (intro w' hS'; (try dsimp only at hS'); go_simp; (try with_reducible rfl))
        simp only [Act.put, List.setIfInBounds_toArray, List.set_cons_zero, List.set_cons_succ]
        refine wpAnyH_takeAt (v := ?_) (d := some 52) (oi := { dst := some 52, op := Op.pick (Operand.tmp 43) (Operand.const (Value.bool true)) (Operand.tmp 51), type := 4, pos := "law.go:90", after := #[{ on := 15, ground := Ground.data }, { on := 23, ground := Ground.data }], guard := none }) 24 rfl rfl (by kernel_rfl) (by kernel_rfl) (by kernel_rfl) (fun _ _ _ h => h) hHeld (by rfl) ?_ ?_
        rotate_left 1
        · (intro w' hS'; (try dsimp only at hS'); go_simp; (try with_reducible rfl))
        simp only [Act.put, List.setIfInBounds_toArray, List.set_cons_zero, List.set_cons_succ]
        refine wpAnyH_takeAt (v := ?_) (d := some 53) (oi := { dst := some 53, op := Op.move (Operand.tmp 52), type := 4, pos := "law.go:90", after := #[{ on := 24, ground := Ground.data }, { on := 17, ground := Ground.chain }], guard := none }) 25 rfl rfl (by kernel_rfl) (by kernel_rfl) (by kernel_rfl) (fun _ _ _ h => h) hHeld (by rfl) ?_ ?_
        rotate_left 1
        · (intro w' hS'; (try dsimp only at hS'); go_simp; (try with_reducible rfl))
        simp only [Act.put, List.setIfInBounds_toArray, List.set_cons_zero, List.set_cons_succ]
        refine wpAnyH_takeAt (v := ?_) (d := some 54) (oi := { dst := some 54, op := Op.move (Operand.tmp 3), type := 70, pos := "law.go:90", after := #[{ on := 25, ground := Ground.guard }], guard := some (25, false) }) 26 rfl rfl (by kernel_rfl) (by kernel_rfl) (by kernel_rfl) (fun _ _ _ h => h) hHeld (by rfl) ?_ ?_
        rotate_left 1
        · (intro w' hS'; (try dsimp only at hS'); go_simp; (try with_reducible rfl))
        simp only [Act.put, List.setIfInBounds_toArray, List.set_cons_zero, List.set_cons_succ]
        refine wpAnyH_takeAt (v := ?_) (d := some 56) (oi := { dst := some 56, op := Op.move (Operand.tmp 4), type := 92, pos := "law.go:90", after := #[{ on := 25, ground := Ground.guard }], guard := some (25, false) }) 28 rfl rfl (by kernel_rfl) (by kernel_rfl) (by kernel_rfl) (fun _ _ _ h => h) hHeld (by rfl) ?_ ?_
        rotate_left 1
        · (intro w' hS'; (try dsimp only at hS'); go_simp; (try with_reducible rfl))
        simp only [Act.put, List.setIfInBounds_toArray, List.set_cons_zero, List.set_cons_succ]
        refine wpAnyH_call (d := some 55) (oi := { dst := some 55, op := Op.call { callee := Callee.value (Operand.func 35), args := #[Operand.tmp 54], argTypes := #[70] }, type := 76, pos := "law.go:90", after := #[{ on := 26, ground := Ground.data }, { on := 25, ground := Ground.chain }, { on := 25, ground := Ground.guard }], guard := some (25, false) }) 27 35 _ _ [.pointer (some ⟨c, 0, none⟩)] rfl rfl (by kernel_rfl) rfl (enters_of Tryd.func35 (by kernel_rfl) rfl) (by rfl) (by rfl) ?_
        refine (due_at c b now2 L2 _ HC4.out hl2).mono ?_; rintro e w5 ⟨vc, rfl, hd, hb5⟩
        have HO := Lib.hid (HO.out.below hb5)
        have HC4 := Lib.hid (HC4.out.below hb5)
        have HR4 := Lib.hid (HR4.out.below hb5)
        have HB4 := Lib.hid (below_then HB4.out hb5)
        have KC := Lib.hid (key_own hd)
        clear hd hHeld
        refine ⟨_, rfl, _, fun _ h => h, (⟨⟨HO.out.cell 0, HO.out.cell 1, HO.out.cell 2, HO.out.cell 3⟩, HR4.out.blk.cell 0, HR4.out.blk.cell 1⟩ : (fun w' : World => ((w'.cell? ⟨p, 0, none⟩ = some (.int .i64 kd) ∧ w'.cell? ⟨p, 1, none⟩ = some (.string key) ∧ w'.cell? ⟨p, 2, none⟩ = some (.float .f64 x) ∧ w'.cell? ⟨p, 3, none⟩ = some (.float .f64 y)) ∧ w'.cell? ⟨m, 0, none⟩ = some (.float .f64 now2) ∧ w'.cell? ⟨m, 1, none⟩ = some (.slice a5 L2.length cap5))) w5), fun hHeld => ?_⟩
        simp only [Act.put, List.setIfInBounds_toArray, List.set_cons_zero, List.set_cons_succ]
        refine wpAnyH_call (d := some 57) (oi := { dst := some 57, op := Op.call { callee := Callee.value (Operand.func 45), args := #[Operand.tmp 56], argTypes := #[92] }, type := 76, pos := "law.go:90", after := #[{ on := 28, ground := Ground.data }, { on := 27, ground := Ground.chain }, { on := 25, ground := Ground.guard }], guard := some (25, false) }) 29 45 _ _ [.pointer (some ⟨m, 0, none⟩)] rfl rfl (by kernel_rfl) rfl (enters_of Tryd.func45 (by kernel_rfl) rfl) (by rfl) (by rfl) ?_
        refine (rdue_of m m now2 _ L2 _ HR4.out hl2 HC4.out.apart HC4.out.top (fun t ht => (HC4.out.good t ht).at_)).mono ?_; rintro e w5 ⟨vm, rfl, hd, hb5⟩
        have HO := Lib.hid (HO.out.below hb5)
        have HC4 := Lib.hid (HC4.out.below hb5)
        have HR4 := Lib.hid (HR4.out.below hb5)
        have HB4 := Lib.hid (below_then HB4.out hb5)
        have KC := Lib.hid (KC.out.below hb5)
        have KM := Lib.hid (key_own hd)
        clear hd hHeld
        refine ⟨_, rfl, _, fun _ h => h, (⟨⟨HO.out.cell 0, HO.out.cell 1, HO.out.cell 2, HO.out.cell 3⟩, HR4.out.blk.cell 0, HR4.out.blk.cell 1⟩ : (fun w' : World => ((w'.cell? ⟨p, 0, none⟩ = some (.int .i64 kd) ∧ w'.cell? ⟨p, 1, none⟩ = some (.string key) ∧ w'.cell? ⟨p, 2, none⟩ = some (.float .f64 x) ∧ w'.cell? ⟨p, 3, none⟩ = some (.float .f64 y)) ∧ w'.cell? ⟨m, 0, none⟩ = some (.float .f64 now2) ∧ w'.cell? ⟨m, 1, none⟩ = some (.slice a5 L2.length cap5))) w5), fun hHeld => ?_⟩
        simp only [Act.put, List.setIfInBounds_toArray, List.set_cons_zero, List.set_cons_succ]
        refine wpAnyH_call (d := some 58) (oi := { dst := some 58, op := Op.call { callee := Callee.value (Operand.func 44), args := #[Operand.tmp 55, Operand.tmp 57], argTypes := #[76, 76] }, type := 4, pos := "law.go:90", after := #[{ on := 27, ground := Ground.data }, { on := 29, ground := Ground.data }, { on := 29, ground := Ground.chain }, { on := 25, ground := Ground.guard }], guard := some (25, false) }) 30 44 _ _ [vc, vm] rfl rfl (by kernel_rfl) rfl (enters_of Tryd.func44 (by kernel_rfl) rfl) (by rfl) (by rfl) ?_
        refine (texts_same _ _ _ _ KC.out KM.out HDl.out).mono ?_; rintro e w5 ⟨rfl, hb5⟩
        have HO := Lib.hid (HO.out.below hb5)
        have HC4 := Lib.hid (HC4.out.below hb5)
        have HR4 := Lib.hid (HR4.out.below hb5)
        have HB4 := Lib.hid (below_then HB4.out hb5)
        clear hHeld
        refine ⟨_, rfl, _, fun _ h => h, (⟨⟨HO.out.cell 0, HO.out.cell 1, HO.out.cell 2, HO.out.cell 3⟩, HR4.out.blk.cell 0, HR4.out.blk.cell 1⟩ : (fun w' : World => ((w'.cell? ⟨p, 0, none⟩ = some (.int .i64 kd) ∧ w'.cell? ⟨p, 1, none⟩ = some (.string key) ∧ w'.cell? ⟨p, 2, none⟩ = some (.float .f64 x) ∧ w'.cell? ⟨p, 3, none⟩ = some (.float .f64 y)) ∧ w'.cell? ⟨m, 0, none⟩ = some (.float .f64 now2) ∧ w'.cell? ⟨m, 1, none⟩ = some (.slice a5 L2.length cap5))) w5), fun hHeld => ?_⟩
        simp only [Act.put, List.setIfInBounds_toArray, List.set_cons_zero, List.set_cons_succ]
        refine wpAnyH_takeAt (v := ?_) (d := some 59) (oi := { dst := some 59, op := Op.unOp UnOp.not 4 (Operand.tmp 58), type := 4, pos := "law.go:90", after := #[{ on := 30, ground := Ground.data }, { on := 25, ground := Ground.guard }], guard := some (25, false) }) 31 rfl rfl (by kernel_rfl) (by kernel_rfl) (by kernel_rfl) (fun _ _ _ h => h) hHeld (by rfl) ?_ ?_
        rotate_left 1
        · (intro w' hS'; (try dsimp only at hS'); go_simp; (try with_reducible rfl))
        simp only [Act.put, List.setIfInBounds_toArray, List.set_cons_zero, List.set_cons_succ]
        refine wpAnyH_takeAt (v := ?_) (d := some 60) (oi := { dst := some 60, op := Op.pick (Operand.tmp 53) (Operand.const (Value.bool true)) (Operand.tmp 59), type := 4, pos := "law.go:90", after := #[{ on := 25, ground := Ground.data }, { on := 31, ground := Ground.data }], guard := none }) 32 rfl rfl (by kernel_rfl) (by kernel_rfl) (by kernel_rfl) (fun _ _ _ h => h) hHeld (by rfl) ?_ ?_
        rotate_left 1
        · (intro w' hS'; (try dsimp only at hS'); go_simp; (try with_reducible rfl))
        simp only [Act.put, List.setIfInBounds_toArray, List.set_cons_zero, List.set_cons_succ]
        refine wpAnyH_done (by kernel_rfl) ?_ _
        go_wp2_with fail
        go_meet
        exact ⟨rfl, now2, L2, _, hl2, HC4.out, HR4.out, HB4.out, HO.out⟩
      case rest =>
        clear HCa HRa HBa HO HStep
        obtain ⟨rfl, now2, L2, v2, hl2, ck2, rf2, be2, ho2⟩ := hcut
        have qo := ho2.cell 1
        have HAp := Lib.hid ck2.apart
        have HNx := Lib.hid (fun W hW => next_of c b now2 L2 W hW hl2)
        have HNr := Lib.hid (fun W hW => rnext_of m m now2 v2 L2 W hW (by omega) (fun t ht => (ck2.good t ht).at_))
        obtain ⟨z, hz⟩ : ∃ z, z = (if L2 = [] then 0 else fminP (L2.map (·.at_))) := ⟨_, rfl⟩
        obtain ⟨t, ht⟩ : ∃ t, t = (!decide (L2 = [])) := ⟨_, rfl⟩
        rw [← hz, ← ht] at HNx HNr
        clear hz ht
        have htt : (t != t) = false := by simp
        have HC4 := Lib.hid ck2
        have HR4 := Lib.hid rf2
        have HO := Lib.hid ho2
        clear ck2 rf2 ho2
        go_wp2_with fail
        refine (HNx.out _ HC4.out).mono ?_; rintro e w5 ⟨rfl, hb5⟩
        have HO := Lib.hid (HO.out.below hb5); have HC4 := Lib.hid (HC4.out.below hb5); have HR4 := Lib.hid (HR4.out.below hb5)
        have be2 := below_then be2 hb5
        clear qo hb5
        have qo := HO.out.cell 1
        go_wp2_with fail
        refine (HNr.out _ HR4.out).mono ?_; rintro e w6 ⟨rfl, hb5⟩
        have HO := Lib.hid (HO.out.below hb5); have HC4 := Lib.hid (HC4.out.below hb5); have HR4 := Lib.hid (HR4.out.below hb5)
        have be2 := below_then be2 hb5
        clear qo hb5
        have qo := HO.out.cell 1
        go_wp2_with fail
        refine (raw_same z _).mono ?_; rintro e w7 ⟨rfl, rfl⟩
        clear htt HNx HNr
        go_wp2_with fail
        have hAt := fun W hW => at_at c b now2 L2 key W hW (by show key.size ≤ maxLen; have := HKS.out; unfold maxLen; omega)
        cases hf : tfind L2 key with
        | none =>
          rw [hf] at hAt
          simp only [Option.getD_none, Option.isSome_none, timer0] at hAt
          have HAt := Lib.hid hAt
          have HFd := Lib.hid (fun W hW => find_of m m now2 v2 L2 key (-1) W hW (by omega) (fidx_none hf))
          have f00 : (FloatKind.f64.format.order 0 0 != some .eq) = false := by decide +kernel
          clear hAt hf
          refine (HAt.out _ HC4.out).mono ?_; rintro e w8 ⟨rfl, hb8⟩
          have HO := Lib.hid (HO.out.below hb8); have HC4 := Lib.hid (HC4.out.below hb8); have HR4 := Lib.hid (HR4.out.below hb8)
          have be2 := below_then be2 hb8
          clear qo hb8
          have qo := HO.out.cell 1
          go_wp2_with fail
          refine (HFd.out _ HR4.out).mono ?_; rintro e w9 ⟨rfl, hb8⟩
          have HC4 := Lib.hid (HC4.out.below hb8); have HR4 := Lib.hid (HR4.out.below hb8)
          have be2 := below_then be2 hb8
          clear qo hb8
          go_wp2_with fail
          go_roundw
          case rel => exact ⟨k + 1, now2, L2, v2, by omega, by go_num, hl2, HC4, HR4, be2⟩
          case measure => simp [intOf]; omega
        | some u =>
          rw [hf] at hAt
          simp only [Option.getD_some, Option.isSome_some] at hAt
          have HAt := Lib.hid hAt
          obtain ⟨i, hi, hit, hfi, _⟩ := fidx_some HAp.out hf
          have HFd := Lib.hid (fun W hW => find_of m m now2 v2 L2 key i W hW (by omega) hfi)
          clear hAt hf hfi
          refine (HAt.out _ HC4.out).mono ?_; rintro e w8 ⟨rfl, hb8⟩
          have HO := Lib.hid (HO.out.below hb8); have HC4 := Lib.hid (HC4.out.below hb8); have HR4 := Lib.hid (HR4.out.below hb8)
          have be2 := below_then be2 hb8
          clear qo hb8
          have qo := HO.out.cell 1
          go_wp2_with fail
          refine (HFd.out _ HR4.out).mono ?_; rintro e w9 ⟨rfl, hb8⟩
          have HC4 := Lib.hid (HC4.out.below hb8); have HR4 := Lib.hid (HR4.out.below hb8)
          have be2 := below_then be2 hb8
          clear qo hb8
          obtain ⟨g, cap9, hv9, hr9, _, _⟩ := HR4.out.row (by intro e; rw [e] at hi; simp at hi)
          have qm1 : w9.cell? ⟨m, 1, none⟩ = some v2 := HR4.out.blk.cell 1
          obtain ⟨c0, c1, c2, c3, c4⟩ := hr9.five i hi
          rw [hit] at c0 c1 c2 c3 c4
          subst hv9
          clear hr9 hit c0 c3 c4
          have hi0 : (0 : Int) ≤ (i : Int) := by omega
          have hi1 : (i : Int) < (L2.length : Int) := by omega
          have htm : (u.times != u.times) = false := by simp
          go_wp2_with fail
          refine (raw_same u.at_ _).mono ?_; rintro e w10 ⟨rfl, rfl⟩
          go_wp2_with fail
          go_roundw
          case rel => exact ⟨k + 1, now2, L2, _, by omega, by go_num, hl2, HC4, HR4, be2⟩
          case measure => simp [intOf]; omega
    · obtain rfl : k = n := by omega
      have hi1 : ¬ (k : Int) < (k : Int) := by omega
      go_wp2_with fail
      go_ret
      exact ⟨rfl, hB⟩
end Go.Proofs.YtkidljiffeonjaaDoor
