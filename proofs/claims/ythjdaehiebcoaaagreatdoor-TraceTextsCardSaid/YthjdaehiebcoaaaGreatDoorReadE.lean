/- liaisonref27.Read: its contract; liaisonlaw27.same. -/
import Derived.Test.YthjdaehiebcoaaaGreatDoorRows
import Derived.WalkKit
import Derived.WalkSpells
import Derived.WalkLawsBesides
import Derived.BigQuiet
import Derived.Deep.QuietTactic
import Derived.StillTailTactics
import Derived.Handy
import Derived.Lib.Hide
import Derived.Test.YthjdaehiebcoaaaGreatDoorReadD
import Derived.Test.YthjdaehiebcoaaaGreatDoorReadC
import Derived.Test.YthjdaehiebcoaaaGreatDoorLineA
set_option linter.unusedSimpArgs false
set_option linter.unusedVariables false
namespace Go.Proofs.YthjdaehiebcoaaaGreatDoor
open Go.RowKit

theorem rread27_of (s : Str) (hs : s.length ≤ 100000) (w : World) : Calls Tryz.prog 10 #[.string (bs s)] w (ReadU (tRead s) w) := by
  unfold tRead
  by_cases h0 : s = []
  · rw [if_pos (.inl h0)]
    exact rread27_go s hs (.inl h0) w
  · by_cases hl : s.getLast? = some 10
    · rw [if_pos (.inr hl)]
      exact rread27_go s hs (.inr ⟨h0, hl⟩) w
    · rw [if_neg (by rintro (e | e); exact h0 e; exact hl e)]
      obtain ⟨n, hn⟩ : ∃ n : Nat, n = s.length := ⟨_, rfl⟩
      have hsz : (bs s).size = n := by rw [bs_size, hn]
      have hn1 : n ≤ 100000 := by omega
      have hpos : 0 < n := by
        rcases Nat.eq_zero_or_pos n with h | h
        · exact absurd (List.eq_nil_of_length_eq_zero (by omega)) h0
        · exact h
      have hx : n - 1 < (bs s).size := by omega
      have e0 : ((bs s).toList == []) = false := by rw [bs_toList]; simpa using h0
      have e1 : ((((bs s)[n - 1]'hx).toNat : Int) != 10) = true := by
        rw [bne_iff_ne]
        intro e
        apply hl
        rw [List.getLast?_eq_getElem?, ← hn, List.getElem?_eq_getElem (by omega)]
        congr 1
        have : (bs s)[n - 1]'hx = s[n - 1]'(by omega) := rfl
        rw [this] at e
        exact u8_eq.2 e
      have hn11 : ((n : Int) - 1).toNat = n - 1 := by omega
      have hn0 : (0 : Int) ≤ (n : Int) - 1 := by omega
      have hnn : (n : Int) - 1 < (n : Int) := by omega
      clear h0 hl hs hn
      go_enter Tryz.func10, Tryz.ntmps10
      go_wp2_with fail
      go_ret2
      exact ⟨rfl, by go_grown⟩
/-- one event's cells in a block -/
structure Ev5 (w : World) (b o : Nat) (e : Ev) : Prop where
  c0 : w.cell? ⟨b, o, none⟩ = some (.int .i64 e.step)
  c1 : w.cell? ⟨b, o + 1, none⟩ = some (.string (bs e.what))
  c2 : w.cell? ⟨b, o + 2, none⟩ = some (.int .i64 e.node)
  c3 : w.cell? ⟨b, o + 3, none⟩ = some (.string (bs e.first))
  c4 : w.cell? ⟨b, o + 4, none⟩ = some (.string (bs e.second))
/-- a slice that reads as events -/
def RowV (w : World) (v : Value) (es : List Ev) : Prop := ∃ b off A cap, v = .slice A es.length cap ∧ (0 < es.length → A = some ⟨b, off, none⟩ ∧ b < w.heap.size) ∧ ∀ j (h : j < es.length), Ev5 w b (off + j * 5) es[j]
theorem RowV.below {w w' : World} {v : Value} {es : List Ev} (h : RowV w v es) (hb : Below w.heap.size w w') : RowV w' v es := by
  obtain ⟨b, off, A, cap, hv, h1, h2⟩ := h
  refine ⟨b, off, A, cap, hv, fun hp => ⟨(h1 hp).1, Nat.lt_of_lt_of_le (h1 hp).2 hb.size⟩, fun j hj => ?_⟩
  have hlt := (h1 (by omega)).2
  obtain ⟨c0, c1, c2, c3, c4⟩ := h2 j hj
  exact ⟨(hb.cell hlt).trans c0, (hb.cell hlt).trans c1, (hb.cell hlt).trans c2, (hb.cell hlt).trans c3, (hb.cell hlt).trans c4⟩
theorem evRow_at : ∀ (es : List Ev) (j : Nat) (h : j < es.length) (k : Nat), k < 5 → (evRow es)[j * 5 + k]? = (evCells es[j])[k]?
  | [], j, h, _, _ => absurd h (by simp)
  | e :: es, 0, _, k, hk => by
    unfold evRow
    rw [List.flatMap_cons, List.getElem?_append_left (by simp [evCells]; omega)]
    simp
  | e :: es, j + 1, h, k, hk => by
    unfold evRow
    rw [List.flatMap_cons, List.getElem?_append_right (by simp [evCells]; omega)]
    have hl : (evCells e).length = 5 := rfl
    rw [hl, show (j + 1) * 5 + k - 5 = j * 5 + k by omega]
    exact evRow_at es j (by simpa using h) k hk
theorem row_of_own {B : Nat} {T : TypeId} {v : Value} {es : List Ev} {w : World} (h : w.ownsRow B T 5 v es.length (evRow es)) : RowV w v es := by
  rcases Nat.eq_zero_or_pos es.length with h0 | hp
  · obtain ⟨a, cap, rfl⟩ := row_slice h
    exact ⟨0, 0, a, cap, rfl, fun hp => by omega, fun j hj => by omega⟩
  · obtain ⟨g, cap, hv, hb, hlt⟩ := World.ownsRow.form h hp
    have hc := World.ownsRow.cells (g := g) h (by rw [hv]; rfl)
    refine ⟨g, 0, _, cap, hv, fun _ => ⟨rfl, hlt⟩, fun j hj => ?_⟩
    have at_ : ∀ k u, k < 5 → (evCells es[j])[k]? = some u → w.cell? ⟨g, 0 + j * 5 + k, none⟩ = some u := fun k u hk hu => by
      have := hc (j * 5 + k) u (by rw [evRow_at es j hj k hk, hu])
      simp only [Addr.add_lit, Nat.zero_add] at this ⊢
      exact this
    exact ⟨at_ 0 _ (by omega) rfl, at_ 1 _ (by omega) rfl, at_ 2 _ (by omega) rfl, at_ 3 _ (by omega) rfl, at_ 4 _ (by omega) rfl⟩
theorem rowEq (T : TypeId) (hT : T = 29) (a c : Int) (b d f : Str) (w : World) : (binOp .neq T (.agg #[.int .i64 a, .string (bs b), .int .i64 c, .string (bs d), .string (bs f)]) (.agg #[.int .i64 a, .string (bs b), .int .i64 c, .string (bs d), .string (bs f)])).run Tryz.prog w = .ok (.bool false) w := by
  subst hT
  go_simp
set_option maxRecDepth 100000 in
set_option maxHeartbeats 2000000 in
theorem same_of (va vb : Value) (es : List Ev) (hl : es.length ≤ 100000) (w : World) (ha : RowV w va es) (hb : RowV w vb es) : Calls Tryz.prog 11 #[va, vb] w (Makes (.bool true) w) := by
  obtain ⟨b1, o1, A1, cap1, rfl, hA, hca⟩ := ha
  obtain ⟨b2, o2, A2, cap2, rfl, hB, hcb⟩ := hb
  obtain ⟨n, hn⟩ : ∃ n : Nat, n = es.length := ⟨_, rfl⟩
  rw [← hn] at hl hA hB ⊢
  have HCA := Lib.hid hca; have HCB := Lib.hid hcb; have HA := Lib.hid hA; have HB := Lib.hid hB; have HN := Lib.hid hn
  clear hca hcb hA hB hn
  go_enter Tryz.func11, Tryz.ntmps11
  go_wp2_with fail
  go_loopw [13] (fun i wr => ∃ j k : Nat, j ≤ n ∧ i = .int .i64 j ∧ wr = w.drewN k) (fun i _ => n - (intOf i).toNat)
  case atStart => exact ⟨0, 0, Nat.zero_le _, rfl, rfl⟩
  case round =>
    obtain ⟨j, k, hj, rfl, rfl⟩ := hrel
    by_cases hjn : j < n
    · have hje : j < es.length := by rw [← HN.out]; exact hjn
      have hA := HA.out (by omega); have hB := HB.out (by omega)
      obtain ⟨rfl, _⟩ := hA
      obtain ⟨rfl, _⟩ := hB
      obtain ⟨a0, a1, a2, a3, a4⟩ := HCA.out j hje
      obtain ⟨c0, c1, c2, c3, c4⟩ := HCB.out j hje
      obtain ⟨e, he⟩ : ∃ e, e = es[j] := ⟨_, rfl⟩
      rw [← he] at a0 a1 a2 a3 a4 c0 c1 c2 c3 c4
      obtain ⟨step, what, node, first, second⟩ := e
      dsimp only at a0 a1 a2 a3 a4 c0 c1 c2 c3 c4
      clear he
      have heq := fun W => rowEq _ rfl step node what first second W
      have hj0 : (0 : Int) ≤ (j : Int) := by omega
      have hj1 : (j : Int) < (n : Int) := by omega
      go_wp2_with fail
      go_quiet (fail)
      go_wp2_with fail
      exact ⟨⟨j + 1, k + nq, by omega, by go_num, rfl⟩, by simp [intOf]; omega⟩
    · obtain rfl : j = n := by omega
      go_wp2_with fail
      go_ret
      exact ⟨rfl, ⟨rfl, rfl, rfl, Nat.le_refl _, fun _ _ => rfl⟩⟩
end Go.Proofs.YthjdaehiebcoaaaGreatDoor
