/- The reference's pair in memory (liaisonref11): Deliver to the participant, without copies. -/
import Derived.Test.YtkanakhlmmpapaaDoorRows
import Derived.WalkKit
import Derived.WalkSpells
import Derived.WalkLawsBesides
import Derived.BigQuiet
import Derived.Deep.QuietTactic
import Derived.StillTailTactics
import Derived.Handy
import Derived.Lib.Hide
import Derived.Test.YtkanakhlmmpapaaDoorMovY
import Derived.Deep.CutRange
set_option linter.unusedSimpArgs false
set_option linter.unusedVariables false
namespace Go.Proofs.YtkanakhlmmpapaaDoor
open Go.RowKit

set_option maxRecDepth 100000 in
set_option maxHeartbeats 8000000 in
theorem gpdeliver2f (B g sb b cap : Nat) (P : MPair) (j : Nat) (k : Int) (e : Eff) (w : World) (h : RefIn B g sb (.slice (some ⟨b, 0, none⟩) P.fl.length cap) P w) (hl : P.fl.length ≤ 1000) (hB : B ≤ w.heap.size)
    (hj : j < P.fl.length) (hjk : P.fl[j] = (2, k)) (hc : ¬ (false = true ∧ mFull P = true)) (he : mTell P.x k = (e, 0)) :
    Calls Tryd.prog 54 #[.pointer (some ⟨g, 0, none⟩), .int .i64 j, .bool false] w fun en w' => en = .returned (.tuple #[effV e, .int .i64 0]) ∧ RefGoes B g sb (.slice (some ⟨b, 0, none⟩) P.fl.length cap) ((mCut ⟨P.c, e.seat, P.fl⟩ j false).put 2 e.send) w w' := by
  have a8 : w.cell? ⟨g, 1, none⟩ = some (.slice (some ⟨b, 0, none⟩) P.fl.length cap) := h.blk.cell 1
  have a0 : w.cell? ⟨g, 0, none⟩ = some (.slice (some ⟨sb, 0, none⟩) 2 2) := h.blk.cell 0
  have hT := fun W => gtell_of P.x k W
  rw [← (eq_any P.x k).1, he] at hT
  have hcap : P.fl.length ≤ cap := by
    rcases h.own.2 with ⟨h', _⟩ | ⟨g', cap', cur, h', hb, hg, hnc, _⟩
    · simp at h'
    · simp only [Value.slice.injEq, Option.some.injEq, Addr.mk.injEq, and_true, true_and] at h'
      obtain ⟨rfl, rfl⟩ := h'
      exact hnc
  have hfv := flV_at P.fl j hj
  rw [hjk] at hfv
  have c1 : w.cell? ⟨b, j * 2, none⟩ = some (.int .i64 2) := (h.own.cellAt _ (by omega)).trans hfv.1
  have c2 : w.cell? ⟨b, j * 2 + 1, none⟩ = some (.int .i64 k) := (h.own.cellAt _ (by omega)).trans hfv.2
  have hbl : b < w.heap.size := (h.own.lt b rfl).2
  have hgl := h.blk.lt
  have hsl := h.sblk.lt
  have hgs := h.ne
  have hbg : b ≠ g := fun e => h.apart (by rw [e]; rfl)
  have hbs' : b ≠ sb := fun e => h.aparts (by rw [e]; rfl)
  have hfull : mFull P = decide ((63 : Int) < (P.fl.length : Int)) := by unfold mFull; rw [Bool.eq_iff_iff]; simp; omega
  rw [hfull] at hc
  have H := Lib.hid h; clear h he hjk hfv hfull
  obtain ⟨cc, x, fl⟩ := P
  obtain ⟨n, hn⟩ : ∃ n, n = fl.length := ⟨_, rfl⟩
  dsimp only [seatV, effV] at *
  rw [← hn] at hl a8 H hc hcap hj ⊢
  have HN := Lib.hid hn; clear hn
  have h2 : (0 : Int) ≤ (j : Int) := by omega
  have h4 : (j : Int) < (n : Int) := by omega
  have HT := Lib.hid hT; clear hT
  clear hc
  have hmc : mCut ⟨cc, e.seat, fl⟩ j false = ⟨cc, e.seat, fl.eraseIdx j⟩ := by unfold mCut; rw [if_neg (by simp)]
  rw [hmc]
  clear hmc
  go_enter Tryd.func54, Tryd.ntmps54
  go_wp2_with fail
  go_cut [9, 10] from 11 to 53 (fun s9 s10 wx => ∃ E, s9 = .pointer (some ⟨E, 0, none⟩) ∧ s10 = .int .i64 0 ∧ MidR B g sb (.slice (some ⟨b, 0, none⟩) n cap) ⟨cc, x, fl⟩ 2 k e w E wx)
  case first =>
    have q1 := (H.out.rel (((Below.refl w.heap.size w).alloc (Nat.le_refl _) (.cells zeroCells8 51)).alloc (by simp) (.cells #[.int .i64 2, .int .i64 k] 67))).sblk.cell
    have q0 := (H.out.rel (((Below.refl w.heap.size w).alloc (Nat.le_refl _) (.cells zeroCells8 51)).alloc (by simp) (.cells #[.int .i64 2, .int .i64 k] 67))).blk.cell
    have q3 := (Blk.fresh (w.alloc (.cells zeroCells8 51)) #[.int .i64 2, .int .i64 k] 67 (w.heap.size + 1) (by simp)).cell
    have hw0 : IntKind.i64.wrap 1 = 1 := by decide
    have hgn1 : g ≠ w.heap.size + 1 + 1 := by omega
    have hgn3 : sb ≠ w.heap.size + 1 + 1 := by omega
    have hgn4 : w.heap.size + 1 + 1 ≠ sb := by omega
    have hgn2 : w.heap.size + 1 + 1 ≠ g := by omega
    go_region_held3 (fun w' => w'.cell? ⟨w.heap.size + 1, 0, none⟩ = some (.int .i64 2) ∧ w'.cell? ⟨w.heap.size + 1, 1, none⟩ = some (.int .i64 k) ∧ w'.cell? ⟨sb, 4, none⟩ = some (.int .i64 x.p) ∧ w'.cell? ⟨sb, 5, none⟩ = some (.int .i64 x.d) ∧ w'.cell? ⟨sb, 6, none⟩ = some (.int .i64 x.s) ∧ w'.cell? ⟨sb, 7, none⟩ = some (.int .i64 x.h) ∧ w'.cell? ⟨g, 0, none⟩ = some (.slice (some ⟨sb, 0, none⟩) 2 2))
      (first | go_keep | exact ⟨q3 0, q3 1, q1 4, q1 5, q1 6, q1 7, q0 0⟩ | exact ⟨r3 _ 0, r3 _ 1, r1 _ 4, r1 _ 5, r1 _ 6, r1 _ 7, r0 _ 0⟩ | ((repeat' apply And.intro) <;> go_keep) | ((repeat' apply And.intro) <;> simp [q0, q1, q3, hgn1, hgn2, hgn3, hgn4]))
      (first
        | (go_at_call 20; refine (HT.out (World.drew (((w.alloc (.cells zeroCells8 51)).alloc (.cells #[.int .i64 2, .int .i64 k] 67)).alloc (.cells zeroCells8 51)))).mono ?_; rintro e w1 ⟨rfl, hb1⟩; have HB1 : Below w.heap.size w w1 := below_then (by go_grown) hb1; have HP1 := Lib.hid (H.out.rel HB1); have HR1 := Lib.hid (((Blk.fresh w zeroCells8 51 _ rfl).below (by go_grown)).below hb1); have HF1 := Lib.hid (((Blk.fresh (w.alloc (.cells zeroCells8 51)) #[.int .i64 2, .int .i64 k] 67 (w.heap.size + 1) (by simp only [World.size_alloc])).below (by go_grown)).below hb1); clear q1 q3 q0; have q1 := HP1.out.sblk.cell; have q0 := HP1.out.blk.cell; have r0 := fun o => (HP1.out.blk.alloc o).cell; have q3 := HF1.out.cell; have r1 := fun o => (HP1.out.sblk.alloc o).cell; have r3 := fun o => (HF1.out.alloc o).cell; have hz1 := hb1.size; simp only [World.size_alloc, World.size_drew] at hz1; have HE1 := Lib.hid ((Blk.fresh ((w.alloc (.cells zeroCells8 51)).alloc (.cells #[.int .i64 2, .int .i64 k] 67)) zeroCells8 51 (w.heap.size + 1 + 1) (by simp only [World.size_alloc])).drew.below hb1); have q4 := HE1.out.cell; have f4 := HE1.out.free)
        | (go_at_call 20; refine (HT.out _).mono ?_; rintro e w1 ⟨rfl, hb1⟩; have HB1 : Below w.heap.size w w1 := below_then (by go_grown) hb1; have HP1 := Lib.hid (H.out.rel HB1); have HR1 := Lib.hid (((Blk.fresh w zeroCells8 51 _ rfl).below (by go_grown)).below hb1); have HF1 := Lib.hid (((Blk.fresh (w.alloc (.cells zeroCells8 51)) #[.int .i64 2, .int .i64 k] 67 (w.heap.size + 1) (by simp only [World.size_alloc])).below (by go_grown)).below hb1); clear q1 q3 q0; have q1 := HP1.out.sblk.cell; have q0 := HP1.out.blk.cell; have r0 := fun o => (HP1.out.blk.alloc o).cell; have q3 := HF1.out.cell; have r1 := fun o => (HP1.out.sblk.alloc o).cell; have r3 := fun o => (HF1.out.alloc o).cell; have hz1 := hb1.size; simp only [World.size_alloc, World.size_drew] at hz1))
    all_goals (go_wp2_with fail; go_meet)
    · exact ⟨w1.heap.size, rfl, rfl, ⟨HB1.alloc HB1.size _, HP1.out.rel ((Below.refl _ _).alloc (Nat.le_refl _) _), HR1.out.alloc _, HF1.out.alloc _, Blk.fresh w1 _ _ _ rfl, by omega⟩⟩
    · exact ⟨w.heap.size + 1 + 1, rfl, rfl, MidR.put HB1 HP1.out HR1.out HF1.out HE1.out (by omega) (by omega) (by omega) (by simp [Value.ownBlock]; omega)⟩
  case rest =>
    obtain ⟨E, rfl, rfl, hM⟩ := hcut
    have q1 := hM.pr.sblk.cell
    have f1 := hM.pr.sblk.free
    have q0 := hM.pr.blk.cell
    have q3 := hM.f1.cell
    have q4 := hM.ee.cell
    have hne := hM.ne
    have e1 : sb ≠ E := by omega
    have e2 : sb ≠ w.heap.size + 1 := by omega
    have e3 : sb ≠ w.heap.size := by omega
    have HPs := Lib.hid ((hM.pr.seat2 e.seat).rel ((Below.refl _ _).drew))
    have HBs := Lib.hid ((((((BesideR.of_below hM.be g sb (.slice (some ⟨b, 0, none⟩) n cap)).setSeat 4 (.int .i64 e.seat.p)).setSeat (4 + 1) (.int .i64 e.seat.d)).setSeat (4 + 2) (.int .i64 e.seat.s)).setSeat (4 + 3) (.int .i64 e.seat.h)).then_below ((Below.refl _ _).drew))
    have HR := Lib.hid ((hM.r0.seat (o := 4) e.seat e3).drew)
    have HFs := Lib.hid ((hM.f1.seat (o := 4) e.seat e2).drew)
    have HEs := Lib.hid ((hM.ee.seat (o := 4) e.seat e1).drew)
    have hzs := hM.be.size
    have hE0 := hM.r0.lt
    have HM := Lib.hid hM; clear hM
    have hzd : wc.heap.size ≤ (World.drew (putSeat wc sb 4 e.seat)).heap.size := by simp [putSeat]
    go_wp2_with fail
    go_region
    obtain ⟨W2, hW2⟩ : ∃ W, W = World.drew ((((wc.setCell ⟨sb, 4, none⟩ (.int .i64 e.seat.p)).setCell ⟨sb, 5, none⟩ (.int .i64 e.seat.d)).setCell ⟨sb, 6, none⟩ (.int .i64 e.seat.s)).setCell ⟨sb, 7, none⟩ (.int .i64 e.seat.h)) := ⟨_, rfl⟩
    have hW3 : W2 = World.drew (putSeat wc sb 4 e.seat) := hW2
    rw [← hW3] at HPs HR HFs HEs
    have HBs2 : Hid (BesideR w W2 g sb (.slice (some ⟨b, 0, none⟩) n cap)) := by rw [hW3]; exact HBs
    clear HBs; have HBs := HBs2; clear HBs2
    rw [← hW2]
    clear hW2 hW3 hzd
    have hEl := HEs.out.lt
    have hb2 : w.heap.size + 2 ≤ W2.heap.size := by omega
    have hl2 : n ≤ 1000 := hl
    have hjn : j < n := by omega
    have hBW : B ≤ W2.heap.size := by omega
    have TF := two_facts HPs.out HN.out hl2 hBW hjn
    obtain ⟨news1, news2, A, hA, hc3, hnc, hbl2, L1, L2, O1, O2, C1a, C2a, HA2, p1, HO0, HZ, HW0, HF⟩ := TF
    have a1 : W2.cell? ⟨g, 1, none⟩ = some (.slice (some ⟨b, 0, none⟩) n cap) := HPs.out.blk.cell 1
    have hgl2 : g < W2.heap.size := by omega
    clear q1 f1 q0 q3 q4
    have hjc : j ≤ cap := by omega
    have hjc1 : j + 1 ≤ cap := by omega
    have h01 : (0 : Int) ≤ (j : Int) + 1 := by omega
    have h02 : (j : Int) + 1 ≤ (n : Int) := by omega
    have hw1 : IntKind.i64.wrap ((j : Int) + 1) = (j : Int) + 1 := IntWalk.i64_in _ (by omega)
    have htn : ((j : Int) + 1).toNat = j + 1 := by omega
    have hvb : ∀ m, w.heap.size ≤ m → (Value.slice (some ⟨b, 0, none⟩) n cap).ownBlock ≠ some m := fun m hm e => by simp [Value.ownBlock] at e; omega
    have HVB := Lib.hid hvb; clear hvb
    obtain ⟨i0, ei, ez, es, eb⟩ := info_parts infoFlyR
    go_wp2_with fail
    have s0 : (World.drew (W2.alloc (.cells #[] 67))).cell? ⟨g, 1, none⟩ = some (.slice (some ⟨b, 0, none⟩) n cap) := (HW0.out.cell (p := ⟨g, 1, none⟩) hgl2).trans a1
    have s00 : (World.drew W2).cell? ⟨g, 1, none⟩ = some (.slice (some ⟨b, 0, none⟩) n cap) := a1
    go_region_law
      (first
        | (refine step_append_at rfl (.tmp 72) (.tmp 78) 63 rfl B 67 i0 (.agg #[.int .i64 0, .int .i64 0]) 2 16 Tryd.underlying63 ei ez es eb rfl (by decide) (.slice (some ⟨W2.heap.size, 0, none⟩) 0 0) 0 [] (by rfl) HO0.out ⟨b, 0, none⟩ j cap news1 (by rfl) L1.out C1a.out O1.out p1.out.1 p1.out.2.1 p1.out.2.2.2.2 (W2.heap.size + 1) HZ.out ?_; intro v1 w1 hown1 hgrow1 hat1; have HB1 := Lib.hid (two_step1 HW0.out hgrow1); have s1 : w1.cell? ⟨g, 1, none⟩ = some (.slice (some ⟨b, 0, none⟩) n cap) := (HB1.out.cell (p := ⟨g, 1, none⟩) hgl2).trans a1; have C2b := Lib.hid (two_step2 C2a.out hgrow1 HA2.out hbl2); have HO1 := Lib.hid hown1; have HAT1 := Lib.hid (two_step3 hat1); clear hown1 hgrow1 hat1)
        | (refine step_append_at rfl (.tmp 79) (.tmp 86) 63 rfl B 67 i0 (.agg #[.int .i64 0, .int .i64 0]) 2 16 Tryd.underlying63 ei ez es eb rfl (by decide) v1 (0 + j) ([] ++ news1) (by rfl) HO1.out A (n - (j + 1)) (cap - (j + 1)) news2 (by rfl) L2.out C2b.out O2.out p1.out.2.2.1 p1.out.2.2.2.1 (two_step4 HB1.out hBW) w1.heap.size rfl ?_; intro v2 w2 hown2 hgrow2 hat2; have HB2 := Lib.hid (two_step5 HB1.out hgrow2 HAT1.out); have s2 : w2.cell? ⟨g, 1, none⟩ = some (.slice (some ⟨b, 0, none⟩) n cap) := (HB2.out.cell (p := ⟨g, 1, none⟩) hgl2).trans a1; have f2 : w2.frozen? ⟨g, 1, none⟩ = false := (HB2.out.frozen (p := ⟨g, 1, none⟩) hgl2).trans (HPs.out.blk.free 1); have HO2 := Lib.hid hown2; have HAT2 := Lib.hid (two_step6 hat2 HAT1.out HB1.out); obtain ⟨a2, c2, rfl⟩ := own_slice hown2; clear hown2 hgrow2 hat2))
    all_goals (have ho := HO2.out; have hat := HAT2.out; have hf := HF.out; simp only [Nat.zero_add] at ho hat hf; have h3 := drop_end j HPs.out HB2.out ho hf.2 hf.1 hat; dsimp only at h3)
    all_goals have hl3 : (fl.eraseIdx j).length ≤ 1000 := by rw [hf.2]; omega
    all_goals generalize hW3 : w2.setCell ⟨g, 1, none⟩ (.slice a2 (j + (n - (j + 1))) c2) = W3 at h3 ⊢
    all_goals clear hW3 ho hat hf HO2 HAT2 HB2 s2 f2 HO1 HAT1 HB1 s1 C2b s0 s00
    all_goals obtain ⟨v3, hP3, hb3, hf3⟩ := h3
    all_goals have hv3 := fresh_ne hb3.size hf3 HVB.out
    all_goals have hz3 := hb3.size
    all_goals have HR3 := Lib.hid (HR.out.besideR hb3 (by omega) (by omega) (HVB.out _ (by omega)))
    all_goals have HE3 := Lib.hid (HEs.out.besideR hb3 (by omega) (by omega) (HVB.out _ (by omega)))
    all_goals have s3 := (HFs.out.besideR hb3 (by omega) (by omega) (HVB.out _ (by omega))).cell
    all_goals have s4 := HE3.out.cell
    all_goals have HV3 := Lib.hid hv3
    all_goals have HP3 := Lib.hid hP3
    all_goals have HB3 := Lib.hid (And.intro hb3 hf3)
    all_goals clear hv3 hP3 hb3 hf3 a1
    all_goals go_wp2_with fail
    all_goals refine (gput_of B g sb v3 ⟨cc, e.seat, fl.eraseIdx j⟩ 2 e.send _ HP3.out hl3 (by decide) (by omega)).mono ?_
    all_goals rintro en w4 ⟨rfl, hg4⟩
    all_goals have hbs : BesideR W3 w4 g sb v3 := by obtain ⟨v', _, hbs, _⟩ := hg4; exact hbs
    all_goals have z0 := (HR3.out.besideR hbs (by omega) (by omega) (HV3.out _ (by omega) (by omega))).cell
    all_goals have g0 := (HR3.out.besideR hbs (by omega) (by omega) (HV3.out _ (by omega) (by omega))).free
    all_goals clear s4 s3
    all_goals have s4 := (HE3.out.besideR hbs (by omega) (by omega) (HV3.out _ (by omega) (by omega))).cell
    all_goals have HG := Lib.hid (RefGoes.two HB3.out.1 HB3.out.2 hg4)
    all_goals clear hg4 hbs
    all_goals have hE1 : E ≠ w.heap.size := by omega
    all_goals go_wp2_with fail
    all_goals exact bodyPost_ret (v := .tuple #[.agg #[.int .i64 e.seat.p, .int .i64 e.seat.d, .int .i64 e.seat.s, .int .i64 e.seat.h, .int .i64 e.send, .int .i64 e.fault, .int .i64 e.work, .bool e.ch], .int .i64 0]) (by simp [results, Tryd.results54, go_sem, z0, g0]) rfl ⟨rfl, RefGoes.res HBs.out HG.out (Nat.le_refl _) (by omega) (by omega) e3 (HVB.out _ (Nat.le_refl _))⟩
end Go.Proofs.YtkanakhlmmpapaaDoor
