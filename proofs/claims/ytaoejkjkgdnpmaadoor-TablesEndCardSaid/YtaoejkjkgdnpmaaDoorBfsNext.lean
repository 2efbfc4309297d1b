/- The closure of TablesEnd: a state's nexts. -/
import Derived.Test.YtaoejkjkgdnpmaaDoorRows
import Derived.WalkKit
import Derived.WalkSpells
import Derived.WalkLawsBesides
import Derived.BigQuiet
import Derived.Deep.QuietTactic
import Derived.StillTailTactics
import Derived.Handy
import Derived.Lib.Hide
import Derived.Test.YtaoejkjkgdnpmaaDoorBfsPlain
import Derived.Test.YtaoejkjkgdnpmaaDoorTabI
set_option linter.unusedSimpArgs false
set_option linter.unusedVariables false
namespace Go.Proofs.YtaoejkjkgdnpmaaDoor
open Go.RowKit

theorem ownI_rel {B : Nat} {v : Value} {xs : List Int} {w w' : World} (h : OwnI B v xs w) (hb : Below w.heap.size w w') : OwnI B v xs w' := by
  have h' : w.ownsRow B 3 1 v xs.length (xs.map (Value.int .i64)) := h
  refine (⟨h'.1, ?_⟩ : w'.ownsRow B 3 1 v xs.length (xs.map (Value.int .i64)))
  rcases h'.2 with hn | ⟨g, cap, cur, rfl, hB, hg, r⟩
  · exact .inl hn
  · exact .inr ⟨g, cap, cur, rfl, hB, (hb.block g (h'.lt g rfl).2).trans hg, r⟩
def optL (o : Option Int) : List Int := match o with | some y => [y] | none => []
theorem fm_succ (xs : List Int) (f : Int → Option Int) (k : Nat) (h : k < xs.length) : (xs.take (k + 1)).filterMap f = (xs.take k).filterMap f ++ optL (f xs[k]) := by
  rw [List.take_succ_eq_append_getElem h, List.filterMap_append]
  congr 1
  simp only [List.filterMap_cons, List.filterMap_nil, optL]
  cases f xs[k] <;> rfl
theorem upto_le (f : Int → Bool) : (upto f).length ≤ 19 := by
  unfold upto
  have := List.length_filter_le f ((List.range 19).map fun i : Nat => (i : Int) + 1)
  simpa using this
theorem int_new (w : World) (y : Int) (T : TypeId) : ∀ j u, [Value.int .i64 y][j]? = some u → (w.alloc (.cells #[.int .i64 y] T)).cell? ((⟨w.heap.size, 0, none⟩ : Addr).add j) = some u := by
  intro j u hj
  match j, hj with
  | 0, hj => simp at hj; subst hj; simp [Addr.add]

set_option maxRecDepth 100000 in
set_option maxHeartbeats 4000000 in
theorem next_of (p d x : Int) (bT bS bN : Nat) (vt vs : Value) (ea : Int → Addr) (w : World) (hE : Err3 ea w) (h9 : ErrIs w 8 (ea 9)) (hT : Blk w bT #[vt]) (hS : Blk w bS #[.int .i64 p, .int .i64 d]) (hN : Blk w bN #[vs]) (rt : ReadI w vt (upto (rTakes p d))) (rs : ReadI w vs (upto (rSends p d))) :
    Calls Tryd.prog 25 #[.int .i64 x, .pointer (some ⟨bT, 0, none⟩), .pointer (some ⟨bS, 0, none⟩), .pointer (some ⟨bN, 0, none⟩)] w fun e w' => ∃ v, e = .returned v ∧ OwnI w.heap.size v (nextL p d x) w' ∧ Below w.heap.size w w' := by
  have HE := Lib.hid hE; have H9 := Lib.hid h9
  have HS := Lib.hid hS; have HN := Lib.hid hN
  obtain ⟨at', ct, rfl, ht⟩ := rt
  obtain ⟨as', cs, rfl, hs⟩ := rs
  have l1 := upto_le (rTakes p d); have l2 := upto_le (rSends p d)
  obtain ⟨xs, hxs⟩ : ∃ xs, xs = upto (rTakes p d) := ⟨_, rfl⟩
  obtain ⟨ys, hys⟩ : ∃ ys, ys = upto (rSends p d) := ⟨_, rfl⟩
  have hL : nextL p d x = xs.filterMap (nextT p d x) ++ ys.filterMap (nextS p d x) := by rw [hxs, hys]; rfl
  rw [hL]
  obtain ⟨L1, hL1⟩ : ∃ L, L = xs.filterMap (nextT p d x) := ⟨_, rfl⟩
  rw [← hL1]
  have HL1 := Lib.hid hL1; clear hL1
  rw [← hxs] at ht l1; rw [← hys] at hs l2
  have t0 : ∀ o, (w.alloc o).cell? ⟨bT, 0, none⟩ = some (.slice at' (upto (rTakes p d)).length ct) := fun o => (hT.alloc o).cell 0
  rw [← hxs] at t0
  rw [← hys] at HN
  have hTl := hT.lt; have hSl := hS.lt; have hNl := hN.lt
  clear hL hxs hys hE h9 hT hS hN
  have HT := Lib.hid ht; have HSN := Lib.hid hs; clear ht hs
  obtain ⟨n1, hn1⟩ : ∃ n, n = xs.length := ⟨_, rfl⟩
  obtain ⟨n2, hn2⟩ : ∃ n, n = ys.length := ⟨_, rfl⟩
  have N1 := Lib.hid hn1; have N2 := Lib.hid hn2
  rw [← hn1] at t0 l1
  rw [← hn2] at HN l2
  clear hn1 hn2
  obtain ⟨i0, ei, ez, es, eb⟩ := info_parts infoInt
  go_enter Tryd.func25, Tryd.ntmps25
  go_wp2_with fail
  go_loopw [6, 18] (fun v i wr => ∃ k : Nat, k ≤ n1 ∧ i = .int .i64 k ∧ OwnI w.heap.size v ((xs.take k).filterMap (nextT p d x)) wr ∧ Below w.heap.size w wr) (fun _ i _ => n1 - (intOf i).toNat)
  case atStart =>
    refine ⟨0, by omega, rfl, ?_, by go_grown⟩
    exact (World.ownsRow_lit w #[] 0 (Nat.le_refl _) (by decide) rfl)
  case round =>
    obtain ⟨k, hk, rfl, hown, hB⟩ := hrel
    have HO := Lib.hid hown; clear hown
    have hzB := hB.size
    by_cases hlt : k < n1
    · have hks : k < xs.length := by rw [← N1.out]; exact hlt
      obtain ⟨g, rfl, hgl, hcell⟩ := HT.out (by intro e; rw [e] at hks; simp at hks)
      obtain ⟨kk, hkk⟩ : ∃ kk, kk = xs[k] := ⟨_, rfl⟩
      have c0 : wr.cell? ⟨g, k, none⟩ = some (.int .i64 kk) := by rw [hkk]; exact (hB.cell (p := ⟨g, k, none⟩) hgl).trans (hcell k hks)
      have hfs := fm_succ xs (nextT p d x) k hks
      rw [← hkk] at hfs
      have hki : (k : Int) < (n1 : Int) := by omega
      have hk0 : (0 : Int) ≤ (k : Int) := by omega
      have s0 : wr.cell? ⟨bS, 0, none⟩ = some (.int .i64 p) := (HS.out.below hB).cell 0
      have s1 : wr.cell? ⟨bS, 1, none⟩ = some (.int .i64 d) := (HS.out.below hB).cell 1
      have hLk := fun W hW => look_any p d kk x ea W hW
      obtain ⟨⟨⟨a, b, c⟩, n⟩, hr⟩ : ∃ r, r = rLook p d kk x := ⟨_, rfl⟩
      rw [← hr] at hLk
      have hnt : nextT p d x kk = if n = 0 ∧ a = 1 then some b else none := by unfold nextT; rw [← hr]
      rw [hnt] at hfs
      obtain ⟨er, her⟩ : ∃ er, er = errOf ea n := ⟨_, rfl⟩
      rw [← her] at hLk
      dsimp only [cell3] at hLk
      have HL := Lib.hid hLk; have HF := Lib.hid hfs
      have hle : ((xs.take k).filterMap (nextT p d x)).length ≤ 19 := by
        have h1 := List.length_filterMap_le (nextT p d x) (xs.take k)
        have h2 := List.length_take_le k xs
        omega
      clear hcell hkk hfs hr hnt hLk
      go_wp2_with fail
      refine (HL.out _ (HE.out.below hB)).mono ?_
      rintro e w1 ⟨rfl, hb1⟩
      have hB1 := below_then hB hb1
      have hz1 := hb1.size
      have HO1 := Lib.hid (ownI_rel (ownI_rel HO.out hb1) ((Below.refl _ _).alloc (Nat.le_refl _) (.cells #[.int .i64 a, .int .i64 b, .int .i64 c] 24)))
      by_cases hn0 : n = 0
      · have he0 : er = .nilIface := by rw [her, errOf, if_pos hn0]
        subst he0
        subst hn0
        clear her
        by_cases ha : a = 1
        · subst ha
          have HF2 : Hid ((xs.take (k + 1)).filterMap (nextT p d x) = (xs.take k).filterMap (nextT p d x) ++ [b]) := by rw [HF.out]; exact Lib.hid rfl
          have hrow : (w1.alloc (.cells #[.int .i64 1, .int .i64 b, .int .i64 c] 24)).ownsRow w.heap.size 3 1 _ ((xs.take k).filterMap (nextT p d x)).length (((xs.take k).filterMap (nextT p d x)).map (Value.int .i64)) := HO1.out
          have HROW := Lib.hid hrow; clear hrow
          go_wp2_with (at_builtin; go_loud (refine wpList_append_own _ rfl _ _ 44 rfl w.heap.size 3 i0 (.int .i64 0) 1 8 Tryd.underlying44 ei ez es eb rfl (by decide) _ _ _ rfl (HROW.out.alloc _) ⟨w1.heap.size + 1, 0, none⟩ 1 1 [.int .i64 b] rfl rfl ?c1 ?c2 ?c3 ?c4 ?c5 ?_))
          case c1 => simpa using int_new (w1.alloc (.cells #[.int .i64 1, .int .i64 b, .int .i64 c] 24)) b 3
          case c2 => intro u hu; simp at hu; subst hu; rfl
          case c3 => unfold maxLen; omega
          case c4 => omega
          case c5 => simp; omega
          · intro v' w3 hown' hgrow _
            have HN2 : Hid (OwnI w.heap.size v' ((xs.take (k + 1)).filterMap (nextT p d x)) w3) := Lib.hid (by rw [HF2.out]; unfold OwnI; rw [List.length_append, List.map_append]; exact hown')
            have hB3 : Below w.heap.size w w3 := ((hB1.alloc hB1.size _).alloc (by simp; omega) _).grown hgrow (by simp; omega) (fun g e => (HROW.out.lt g e).1)
            clear hown' hgrow
            go_wp2_with fail
            all_goals (go_roundw <;> first | exact ⟨k + 1, by omega, by go_num, HN2.out, hB3⟩ | (simp [intOf]; omega))
        · have HF2 : Hid ((xs.take (k + 1)).filterMap (nextT p d x) = (xs.take k).filterMap (nextT p d x)) := by rw [HF.out, if_neg (fun h => ha h.2)]; exact Lib.hid (by simp [optL])
          go_wp2_with fail
          all_goals (go_roundw <;> first | exact ⟨k + 1, by omega, by go_num, by rw [HF2.out]; exact HO1.out, hB1.alloc hB1.size _⟩ | (simp [intOf]; omega))
      · have HF2 : Hid ((xs.take (k + 1)).filterMap (nextT p d x) = (xs.take k).filterMap (nextT p d x)) := by rw [HF.out, if_neg (fun h => hn0 h.1)]; exact Lib.hid (by simp [optL])
        have he0 : er = errV (ea n) := by rw [her, errOf, if_neg hn0]
        subst he0
        clear her
        go_wp2_with fail
        all_goals (go_roundw <;> first | exact ⟨k + 1, by omega, by go_num, by rw [HF2.out]; exact HO1.out, hB1.alloc hB1.size _⟩ | (simp [intOf]; omega))
    · obtain rfl : k = n1 := by omega
      rw [List.take_of_length_le (by rw [N1.out]; omega)] at HO
      have hL1l : L1.length ≤ 19 := by
        have h1 := List.length_filterMap_le (nextT p d x) xs
        have h2 := N1.out
        rw [HL1.out]; omega
      rw [← HL1.out] at HO
      clear t0 HT
      have n0 : wr.cell? ⟨bN, 0, none⟩ = some (.slice as' n2 cs) := (HN.out.below hB).cell 0
      go_wp2_with fail
      go_loopw [6, 47] (fun v i wr => ∃ k : Nat, k ≤ n2 ∧ i = .int .i64 k ∧ OwnI w.heap.size v (L1 ++ (ys.take k).filterMap (nextS p d x)) wr ∧ Below w.heap.size w wr) (fun _ i _ => n2 - (intOf i).toNat)
      case atStart => exact ⟨0, by omega, rfl, by simpa using HO.out, hB⟩
      case round =>
        obtain ⟨j, hj, rfl, hown, hB⟩ := hrel
        have HO := Lib.hid hown; clear hown
        have hzB := hB.size
        by_cases hlt : j < n2
        · have hks : j < ys.length := by rw [← N2.out]; exact hlt
          obtain ⟨g, rfl, hgl, hcell⟩ := HSN.out (by intro e; rw [e] at hks; simp at hks)
          obtain ⟨kk, hkk⟩ : ∃ kk, kk = ys[j] := ⟨_, rfl⟩
          have c0 : wr.cell? ⟨g, j, none⟩ = some (.int .i64 kk) := by rw [hkk]; exact (hB.cell (p := ⟨g, j, none⟩) hgl).trans (hcell j hks)
          have hfs := fm_succ ys (nextS p d x) j hks
          rw [← hkk] at hfs
          have hki : (j : Int) < (n2 : Int) := by omega
          have hk0 : (0 : Int) ≤ (j : Int) := by omega
          have s0 : wr.cell? ⟨bS, 0, none⟩ = some (.int .i64 p) := (HS.out.below hB).cell 0
          have s1 : wr.cell? ⟨bS, 1, none⟩ = some (.int .i64 d) := (HS.out.below hB).cell 1
          have hLk := fun W hW hW9 => step_any p d kk x ea W hW hW9
          obtain ⟨⟨b, n⟩, hr⟩ : ∃ r, r = rStep p d kk x := ⟨_, rfl⟩
          rw [← hr] at hLk
          have hnt : nextS p d x kk = if n = 0 then some b else none := by unfold nextS; rw [← hr]
          rw [hnt] at hfs
          obtain ⟨er, her⟩ : ∃ er, er = errOf ea n := ⟨_, rfl⟩
          rw [← her] at hLk
          have HL := Lib.hid hLk; have HF := Lib.hid hfs
          have hle : (L1 ++ (ys.take j).filterMap (nextS p d x)).length ≤ 38 := by
            have h1 := List.length_filterMap_le (nextS p d x) (ys.take j)
            have h2 := List.length_take_le j ys
            rw [List.length_append]; omega
          clear hcell hkk hfs hr hnt hLk
          go_wp2_with fail
          refine (HL.out _ (HE.out.below hB) (H9.out.below hB)).mono ?_
          rintro e w1 ⟨rfl, hb1⟩
          have hB1 := below_then hB hb1
          have hz1 := hb1.size
          have HO1 := Lib.hid (ownI_rel HO.out hb1)
          by_cases hn0 : n = 0
          · have he0 : er = .nilIface := by rw [her, errOf, if_pos hn0]
            subst he0
            subst hn0
            clear her
            have HF2 : Hid ((ys.take (j + 1)).filterMap (nextS p d x) = (ys.take j).filterMap (nextS p d x) ++ [b]) := by rw [HF.out]; exact Lib.hid rfl
            have hrow : w1.ownsRow w.heap.size 3 1 _ (L1 ++ (ys.take j).filterMap (nextS p d x)).length ((L1 ++ (ys.take j).filterMap (nextS p d x)).map (Value.int .i64)) := HO1.out
            have HROW := Lib.hid hrow; clear hrow
            go_wp2_with (at_builtin; go_loud (refine wpList_append_own _ rfl _ _ 44 rfl w.heap.size 3 i0 (.int .i64 0) 1 8 Tryd.underlying44 ei ez es eb rfl (by decide) _ _ _ rfl (HROW.out.alloc _) ⟨w1.heap.size, 0, none⟩ 1 1 [.int .i64 b] rfl rfl ?c1 ?c2 ?c3 ?c4 ?c5 ?_))
            case c1 => exact int_new w1 b 3
            case c2 => intro u hu; simp at hu; subst hu; rfl
            case c3 => unfold maxLen; omega
            case c4 => omega
            case c5 => simp; omega
            · intro v' w3 hown' hgrow _
              have HN2 : Hid (OwnI w.heap.size v' (L1 ++ (ys.take (j + 1)).filterMap (nextS p d x)) w3) := Lib.hid (by rw [HF2.out]; unfold OwnI; simp only [List.length_append, List.map_append, List.length_singleton, List.map_cons, List.map_nil, ← Nat.add_assoc]; exact hown')
              have hB3 : Below w.heap.size w w3 := (hB1.alloc hB1.size _).grown hgrow (by simp; omega) (fun g e => (HROW.out.lt g e).1)
              clear hown' hgrow
              go_wp2_with fail
              all_goals (go_roundw <;> first | exact ⟨j + 1, by omega, by go_num, HN2.out, hB3⟩ | (simp [intOf]; omega))
          · have HF2 : Hid ((ys.take (j + 1)).filterMap (nextS p d x) = (ys.take j).filterMap (nextS p d x)) := by rw [HF.out, if_neg hn0]; exact Lib.hid (by simp [optL])
            have he0 : er = errV (ea n) := by rw [her, errOf, if_neg hn0]
            subst he0
            clear her
            go_wp2_with fail
            all_goals (go_roundw <;> first | exact ⟨j + 1, by omega, by go_num, by rw [HF2.out]; exact HO1.out, hB1⟩ | (simp [intOf]; omega))
        · obtain rfl : j = n2 := by omega
          rw [List.take_of_length_le (by rw [N2.out]; omega)] at HO
          go_wp2_with fail
          go_ret
          exact ⟨_, rfl, HO.out, hB⟩
end Go.Proofs.YtaoejkjkgdnpmaaDoor
