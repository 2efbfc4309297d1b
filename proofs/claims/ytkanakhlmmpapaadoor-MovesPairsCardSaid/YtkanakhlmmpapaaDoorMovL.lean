/- A pair in memory: a kind is delivered to the participant. -/
import Derived.Test.YtkanakhlmmpapaaDoorRows
import Derived.WalkKit
import Derived.WalkSpells
import Derived.WalkLawsBesides
import Derived.BigQuiet
import Derived.Deep.QuietTactic
import Derived.StillTailTactics
import Derived.Handy
import Derived.Lib.Hide
import Derived.Test.YtkanakhlmmpapaaDoorMovK0
set_option linter.unusedSimpArgs false
set_option linter.unusedVariables false
namespace Go.Proofs.YtkanakhlmmpapaaDoor
open Go.RowKit

set_option maxRecDepth 100000 in
set_option maxHeartbeats 8000000 in
theorem pdeliver2 (B g b cap : Nat) (P : MPair) (j : Nat) (k : Int) (copies : Bool) (e : Eff) (ea : Int → Addr) (w : World) (hE : Err5 ea w) (h : PairIn B g (.slice (some ⟨b, 0, none⟩) P.fl.length cap) P w) (hl : P.fl.length ≤ 1000) (hB : B ≤ w.heap.size)
    (hj : j < P.fl.length) (hjk : P.fl[j] = (2, k)) (hc : ¬ (copies = true ∧ mFull P = true)) (he : mTell P.x k = (e, 0)) :
    Calls Tryd.prog 15 #[.pointer (some ⟨g, 0, none⟩), .int .i64 j, .bool copies] w fun en w' => en = .returned (.tuple #[effV e, .nilIface]) ∧ PairGoes B g (.slice (some ⟨b, 0, none⟩) P.fl.length cap) ((mCut ⟨P.c, e.seat, P.fl⟩ j copies).put 2 e.send) w w' := by
  have a8 : w.cell? ⟨g, 8, none⟩ = some (.slice (some ⟨b, 0, none⟩) P.fl.length cap) := h.blk.cell 8
  have hT := fun W hW => tell_of P.x k ea W hW
  rw [he] at hT
  have hcap : P.fl.length ≤ cap := by
    rcases h.own.2 with ⟨h', _⟩ | ⟨g', cap', cur, h', hb, hg, hnc, _⟩
    · simp at h'
    · simp only [Value.slice.injEq, Option.some.injEq, Addr.mk.injEq, and_true, true_and] at h'
      obtain ⟨rfl, rfl⟩ := h'
      exact hnc
  have hfv := flV_at P.fl j hj
  rw [hjk] at hfv
  have c1 : w.cell? ⟨b, j * 2, none⟩ = some (.int .i64 2) := (h.own.cellAt _ (by omega)).trans hfv.1
  have c2 : w.cell? ⟨b, j * 2 + 1, none⟩ = some (.int .i64 k) := (h.own.cellAt _ (by omega)).trans hfv.2
  have hbl : b < w.heap.size := (h.own.lt b rfl).2
  have hgl := h.blk.lt
  have hbg : b ≠ g := fun e => h.apart (by rw [e]; rfl)
  have hF := fun W hW => full_of B g (.slice (some ⟨b, 0, none⟩) P.fl.length cap) P W hW hl
  have hDel := fun w h => delete_of B b cap j P.fl w h hj hl
  obtain ⟨f, hf⟩ : ∃ f, f = mFull P := ⟨_, rfl⟩
  rw [← hf] at hF hc
  have H := Lib.hid h; clear h he hjk hfv hf
  have HF := Lib.hid hF; clear hF
  have HD := Lib.hid hDel; clear hDel
  obtain ⟨cc, x, fl⟩ := P
  obtain ⟨n, hn⟩ : ∃ n, n = fl.length := ⟨_, rfl⟩
  dsimp only [seatV, effV] at *
  rw [← hn] at hl a8 H HF HD hcap hj ⊢
  have HN := Lib.hid hn; clear hn
  have h2 : (0 : Int) ≤ (j : Int) := by omega
  have h4 : (j : Int) < (n : Int) := by omega
  rw [show errOf ea 0 = .nilIface from rfl] at hT
  have HT := Lib.hid hT; clear hT
  cases copies with
  | true =>
    obtain rfl : f = false := by cases f; rfl; exact absurd ⟨rfl, rfl⟩ hc
    clear hc HD
    go_enter Tryd.func15, Tryd.ntmps15
    go_wp2_with (go_at_call 35; refine (HF.out _ (H.out.rel (by go_grown))).mono ?_; rintro e w1 ⟨rfl, rfl⟩)
    go_cut [9, 10] from 11 to 53 (fun s9 s10 wx => ∃ E, s9 = .pointer (some ⟨E, 0, none⟩) ∧ s10 = .nilIface ∧ Mid B g (.slice (some ⟨b, 0, none⟩) n cap) ⟨cc, x, fl⟩ 2 k e w E wx)
    case first =>
      have q1 := (H.out.rel (((Below.refl w.heap.size w).alloc (Nat.le_refl _) (.cells zeroCells8 34)).alloc (by simp) (.cells #[.int .i64 2, .int .i64 k] 68))).blk.cell
      have q3 := (Blk.fresh (w.alloc (.cells zeroCells8 34)) #[.int .i64 2, .int .i64 k] 68 (w.heap.size + 1) (by simp)).cell
      have hw0 : IntKind.i64.wrap 1 = 1 := by decide
      have hgn1 : g ≠ w.heap.size + 1 + 1 := by omega
      have hgn2 : w.heap.size + 1 + 1 ≠ g := by omega
      go_region_held3 (fun w' => w'.cell? ⟨w.heap.size + 1, 0, none⟩ = some (.int .i64 2) ∧ w'.cell? ⟨w.heap.size + 1, 1, none⟩ = some (.int .i64 k) ∧ w'.cell? ⟨g, 4, none⟩ = some (.int .i64 x.p) ∧ w'.cell? ⟨g, 5, none⟩ = some (.int .i64 x.d) ∧ w'.cell? ⟨g, 6, none⟩ = some (.int .i64 x.s) ∧ w'.cell? ⟨g, 7, none⟩ = some (.int .i64 x.h))
        (first | go_keep | exact ⟨q3 0, q3 1, q1 4, q1 5, q1 6, q1 7⟩ | exact ⟨r3 _ 0, r3 _ 1, r1 _ 4, r1 _ 5, r1 _ 6, r1 _ 7⟩ | ((repeat' apply And.intro) <;> go_keep) | ((repeat' apply And.intro) <;> simp [q1, q3, hgn1, hgn2]))
        (first
          | (go_at_call 19; refine (HT.out (World.drew (((w.alloc (.cells zeroCells8 34)).alloc (.cells #[.int .i64 2, .int .i64 k] 68)).alloc (.cells zeroCells8 34))) (hE.e.below (by go_grown))).mono ?_; rintro e w1 ⟨rfl, hb1⟩; have HB1 : Below w.heap.size w w1 := below_then (by go_grown) hb1; have HP1 := Lib.hid (H.out.rel HB1); have HR1 := Lib.hid (((Blk.fresh w zeroCells8 34 _ rfl).below (by go_grown)).below hb1); have HF1 := Lib.hid (((Blk.fresh (w.alloc (.cells zeroCells8 34)) #[.int .i64 2, .int .i64 k] 68 (w.heap.size + 1) (by simp only [World.size_alloc])).below (by go_grown)).below hb1); clear q1 q3; have q1 := HP1.out.blk.cell; have q3 := HF1.out.cell; have r1 := fun o => (HP1.out.blk.alloc o).cell; have r3 := fun o => (HF1.out.alloc o).cell; have hz1 := hb1.size; simp only [World.size_alloc, World.size_drew] at hz1; have HE1 := Lib.hid ((Blk.fresh ((w.alloc (.cells zeroCells8 34)).alloc (.cells #[.int .i64 2, .int .i64 k] 68)) zeroCells8 34 (w.heap.size + 1 + 1) (by simp only [World.size_alloc])).drew.below hb1); have q4 := HE1.out.cell; have f4 := HE1.out.free)
          | (go_at_call 19; refine (HT.out _ (hE.e.below (by go_grown))).mono ?_; rintro e w1 ⟨rfl, hb1⟩; have HB1 : Below w.heap.size w w1 := below_then (by go_grown) hb1; have HP1 := Lib.hid (H.out.rel HB1); have HR1 := Lib.hid (((Blk.fresh w zeroCells8 34 _ rfl).below (by go_grown)).below hb1); have HF1 := Lib.hid (((Blk.fresh (w.alloc (.cells zeroCells8 34)) #[.int .i64 2, .int .i64 k] 68 (w.heap.size + 1) (by simp only [World.size_alloc])).below (by go_grown)).below hb1); clear q1 q3; have q1 := HP1.out.blk.cell; have q3 := HF1.out.cell; have r1 := fun o => (HP1.out.blk.alloc o).cell; have r3 := fun o => (HF1.out.alloc o).cell; have hz1 := hb1.size; simp only [World.size_alloc, World.size_drew] at hz1))
      all_goals (go_wp2_with fail; go_meet)
      · exact ⟨w1.heap.size, rfl, rfl, ⟨HB1.alloc HB1.size _, HP1.out.rel ((Below.refl _ _).alloc (Nat.le_refl _) _), HR1.out.alloc _, HF1.out.alloc _, Blk.fresh w1 _ _ _ rfl, by omega⟩⟩
      · exact ⟨w.heap.size + 1 + 1, rfl, rfl, Mid.put HB1 HP1.out HR1.out HF1.out HE1.out (by omega) (by omega) (by simp [Value.ownBlock]; omega)⟩
    case rest =>
      obtain ⟨E, rfl, rfl, hM⟩ := hcut
      have q1 := hM.pr.blk.cell
      have f1 := hM.pr.blk.free
      have q3 := hM.f1.cell
      have q4 := hM.ee.cell
      have hne := hM.ne
      have e1 : g ≠ E := by omega
      have e2 : g ≠ w.heap.size + 1 := by omega
      have e3 : g ≠ w.heap.size := by omega
      have HPs := Lib.hid ((hM.pr.seat2 e.seat).rel ((Below.refl _ _).drew))
      have HBs := Lib.hid (((Beside.of_below hM.be g (.slice (some ⟨b, 0, none⟩) n cap)).seat 4 e.seat).drew)
      have HR := Lib.hid ((hM.r0.seat (o := 4) e.seat e3).drew)
      have HFs := Lib.hid ((hM.f1.seat (o := 4) e.seat e2).drew)
      have HEs := Lib.hid ((hM.ee.seat (o := 4) e.seat e1).drew)
      have hzs := hM.be.size
      have hE0 := hM.r0.lt
      have HM := Lib.hid hM; clear hM
      go_wp2_with fail
      go_region
      have hl2 : fl.length ≤ 1000 := by rw [← HN.out]; exact hl
      have hvb : ∀ m, w.heap.size ≤ m → (Value.slice (some ⟨b, 0, none⟩) n cap).ownBlock ≠ some m := fun m hm e => by simp [Value.ownBlock] at e; omega
      have HVB := Lib.hid hvb; clear hvb
      go_wp2_with fail
      refine (put_of B g (.slice (some ⟨b, 0, none⟩) n cap) ⟨cc, e.seat, fl⟩ 2 e.send _ HPs.out hl2 (by decide) (by simp [putSeat]; omega)).mono ?_
      rintro en w3 ⟨rfl, hg3⟩
      have hbs : Beside (World.drew (putSeat wc g 4 e.seat)) w3 g (.slice (some ⟨b, 0, none⟩) n cap) := by obtain ⟨v', _, hbs, _⟩ := hg3; exact hbs
      have s0 := (HR.out.beside hbs (by omega) (HVB.out _ (by omega))).cell
      have g0 := (HR.out.beside hbs (by omega) (HVB.out _ (by omega))).free
      have s4 := (HEs.out.beside hbs (by omega) (HVB.out _ (by omega))).cell
      have HG := Lib.hid hg3; clear hg3 q1 f1 q3 q4
      have hE1 : E ≠ w.heap.size := by omega
      go_wp2_with fail
      exact bodyPost_ret (v := .tuple #[.agg #[.int .i64 e.seat.p, .int .i64 e.seat.d, .int .i64 e.seat.s, .int .i64 e.seat.h, .int .i64 e.send, .int .i64 e.fault, .int .i64 e.work, .bool e.ch], .nilIface]) (by simp [results, Tryd.results15, go_sem, s0, g0]) rfl ⟨rfl, PairGoes.res HBs.out HG.out (Nat.le_refl _) (by simp [putSeat]; omega) e3 (HVB.out _ (Nat.le_refl _))⟩
  | false =>
    clear hc HF
    have hcut : mCut ⟨cc, e.seat, fl⟩ j false = ⟨cc, e.seat, fl.eraseIdx j⟩ := by unfold mCut; rw [if_neg (by simp)]
    rw [hcut]
    clear hcut
    go_enter Tryd.func15, Tryd.ntmps15
    go_wp2_with fail
    go_cut [9, 10] from 11 to 53 (fun s9 s10 wx => ∃ E, s9 = .pointer (some ⟨E, 0, none⟩) ∧ s10 = .nilIface ∧ Mid B g (.slice (some ⟨b, 0, none⟩) n cap) ⟨cc, x, fl⟩ 2 k e w E wx)
    case first =>
      have q1 := (H.out.rel (((Below.refl w.heap.size w).alloc (Nat.le_refl _) (.cells zeroCells8 34)).alloc (by simp) (.cells #[.int .i64 2, .int .i64 k] 68))).blk.cell
      have q3 := (Blk.fresh (w.alloc (.cells zeroCells8 34)) #[.int .i64 2, .int .i64 k] 68 (w.heap.size + 1) (by simp)).cell
      have hw0 : IntKind.i64.wrap 1 = 1 := by decide
      have hgn1 : g ≠ w.heap.size + 1 + 1 := by omega
      have hgn2 : w.heap.size + 1 + 1 ≠ g := by omega
      go_region_held3 (fun w' => w'.cell? ⟨w.heap.size + 1, 0, none⟩ = some (.int .i64 2) ∧ w'.cell? ⟨w.heap.size + 1, 1, none⟩ = some (.int .i64 k) ∧ w'.cell? ⟨g, 4, none⟩ = some (.int .i64 x.p) ∧ w'.cell? ⟨g, 5, none⟩ = some (.int .i64 x.d) ∧ w'.cell? ⟨g, 6, none⟩ = some (.int .i64 x.s) ∧ w'.cell? ⟨g, 7, none⟩ = some (.int .i64 x.h))
        (first | go_keep | exact ⟨q3 0, q3 1, q1 4, q1 5, q1 6, q1 7⟩ | exact ⟨r3 _ 0, r3 _ 1, r1 _ 4, r1 _ 5, r1 _ 6, r1 _ 7⟩ | ((repeat' apply And.intro) <;> go_keep) | ((repeat' apply And.intro) <;> simp [q1, q3, hgn1, hgn2]))
        (first
          | (go_at_call 19; refine (HT.out (World.drew (((w.alloc (.cells zeroCells8 34)).alloc (.cells #[.int .i64 2, .int .i64 k] 68)).alloc (.cells zeroCells8 34))) (hE.e.below (by go_grown))).mono ?_; rintro e w1 ⟨rfl, hb1⟩; have HB1 : Below w.heap.size w w1 := below_then (by go_grown) hb1; have HP1 := Lib.hid (H.out.rel HB1); have HR1 := Lib.hid (((Blk.fresh w zeroCells8 34 _ rfl).below (by go_grown)).below hb1); have HF1 := Lib.hid (((Blk.fresh (w.alloc (.cells zeroCells8 34)) #[.int .i64 2, .int .i64 k] 68 (w.heap.size + 1) (by simp only [World.size_alloc])).below (by go_grown)).below hb1); clear q1 q3; have q1 := HP1.out.blk.cell; have q3 := HF1.out.cell; have r1 := fun o => (HP1.out.blk.alloc o).cell; have r3 := fun o => (HF1.out.alloc o).cell; have hz1 := hb1.size; simp only [World.size_alloc, World.size_drew] at hz1; have HE1 := Lib.hid ((Blk.fresh ((w.alloc (.cells zeroCells8 34)).alloc (.cells #[.int .i64 2, .int .i64 k] 68)) zeroCells8 34 (w.heap.size + 1 + 1) (by simp only [World.size_alloc])).drew.below hb1); have q4 := HE1.out.cell; have f4 := HE1.out.free)
          | (go_at_call 19; refine (HT.out _ (hE.e.below (by go_grown))).mono ?_; rintro e w1 ⟨rfl, hb1⟩; have HB1 : Below w.heap.size w w1 := below_then (by go_grown) hb1; have HP1 := Lib.hid (H.out.rel HB1); have HR1 := Lib.hid (((Blk.fresh w zeroCells8 34 _ rfl).below (by go_grown)).below hb1); have HF1 := Lib.hid (((Blk.fresh (w.alloc (.cells zeroCells8 34)) #[.int .i64 2, .int .i64 k] 68 (w.heap.size + 1) (by simp only [World.size_alloc])).below (by go_grown)).below hb1); clear q1 q3; have q1 := HP1.out.blk.cell; have q3 := HF1.out.cell; have r1 := fun o => (HP1.out.blk.alloc o).cell; have r3 := fun o => (HF1.out.alloc o).cell; have hz1 := hb1.size; simp only [World.size_alloc, World.size_drew] at hz1))
      all_goals (go_wp2_with fail; go_meet)
      · exact ⟨w1.heap.size, rfl, rfl, ⟨HB1.alloc HB1.size _, HP1.out.rel ((Below.refl _ _).alloc (Nat.le_refl _) _), HR1.out.alloc _, HF1.out.alloc _, Blk.fresh w1 _ _ _ rfl, by omega⟩⟩
      · exact ⟨w.heap.size + 1 + 1, rfl, rfl, Mid.put HB1 HP1.out HR1.out HF1.out HE1.out (by omega) (by omega) (by simp [Value.ownBlock]; omega)⟩
    case rest =>
      obtain ⟨E, rfl, rfl, hM⟩ := hcut
      have q1 := hM.pr.blk.cell
      have f1 := hM.pr.blk.free
      have q3 := hM.f1.cell
      have q4 := hM.ee.cell
      have hne := hM.ne
      have e1 : g ≠ E := by omega
      have e2 : g ≠ w.heap.size + 1 := by omega
      have e3 : g ≠ w.heap.size := by omega
      have HPs := Lib.hid ((hM.pr.seat2 e.seat).rel ((Below.refl _ _).drew))
      have HBs := Lib.hid (((Beside.of_below hM.be g (.slice (some ⟨b, 0, none⟩) n cap)).seat 4 e.seat).drew)
      have HR := Lib.hid ((hM.r0.seat (o := 4) e.seat e3).drew)
      have HFs := Lib.hid ((hM.f1.seat (o := 4) e.seat e2).drew)
      have HEs := Lib.hid ((hM.ee.seat (o := 4) e.seat e1).drew)
      have hzs := hM.be.size
      have hE0 := hM.r0.lt
      have HM := Lib.hid hM; clear hM
      go_wp2_with fail
      go_region
      have hvb : ∀ m, w.heap.size ≤ m → (Value.slice (some ⟨b, 0, none⟩) n cap).ownBlock ≠ some m := fun m hm e => by simp [Value.ownBlock] at e; omega
      have HVB := Lib.hid hvb; clear hvb
      have hbgo : some b ≠ some g := fun e => hbg (by injection e)
      have hsz2 : w.heap.size < (World.drew (putSeat wc g 4 e.seat)).heap.size := by simp [putSeat]; omega
      have hown2 : (World.drew (putSeat wc g 4 e.seat)).ownsRow B 68 2 (.slice (some ⟨b, 0, none⟩) n cap) n (flV fl) := by
        have := HPs.out.own
        dsimp only at this
        rw [← HN.out] at this
        exact this
      have HO2 := Lib.hid hown2; clear hown2
      go_wp2_with fail
      refine (HD.out _ HO2.out).mono ?_
      rintro en w3 ⟨rfl, ho3, hg3⟩
      have hz3 := hg3.size
      clear q1 f1 q3 q4 a8
      have a8 : w3.cell? ⟨g, 8, none⟩ = some (.slice (some ⟨b, 0, none⟩) n cap) := (hg3.cell_far ⟨g, 8, none⟩ HPs.out.blk.lt (fun e => hbgo e.symm)).trans (HPs.out.blk.cell 8)
      have f8 : w3.frozen? ⟨g, 8, none⟩ = false := (hg3.frozen_far ⟨g, 8, none⟩ HPs.out.blk.lt (fun e => hbgo e.symm)).trans (HPs.out.blk.free 8)
      have hP3 := HPs.out.swap (fl.eraseIdx j) hg3 ho3 hbgo
      obtain ⟨n3, hn3⟩ : ∃ n3, n3 = (fl.eraseIdx j).length := ⟨_, rfl⟩
      have hl3 : (fl.eraseIdx j).length ≤ 1000 := by rw [List.length_eraseIdx_of_lt (by rw [← HN.out]; exact hj), ← HN.out]; omega
      have HP3 := Lib.hid hP3; clear hP3
      have HB3 := Lib.hid (HBs.out.trans ((Beside.of_grown g (.slice (some ⟨b, 0, none⟩) n cap) hg3).setCell 8 (.slice (some ⟨b, 0, none⟩) (fl.eraseIdx j).length cap)) (.inl rfl))
      have HR3 := Lib.hid ((HR.out.grown hg3 (HVB.out _ (Nat.le_refl _))).other (p := ⟨g, 8, none⟩) e3 (.slice (some ⟨b, 0, none⟩) (fl.eraseIdx j).length cap))
      have HF3 := Lib.hid ((HFs.out.grown hg3 (HVB.out _ (by omega))).other (p := ⟨g, 8, none⟩) e2 (.slice (some ⟨b, 0, none⟩) (fl.eraseIdx j).length cap))
      have HE3 := Lib.hid ((HEs.out.grown hg3 (HVB.out _ (by omega))).other (p := ⟨g, 8, none⟩) e1 (.slice (some ⟨b, 0, none⟩) (fl.eraseIdx j).length cap))
      have q3 := (HFs.out.grown hg3 (HVB.out _ (by omega))).cell
      have q4 := (HEs.out.grown hg3 (HVB.out _ (by omega))).cell
      clear ho3 hg3
      go_wp2_with fail
      refine (put_of B g (.slice (some ⟨b, 0, none⟩) (fl.eraseIdx j).length cap) ⟨cc, e.seat, fl.eraseIdx j⟩ 2 e.send _ HP3.out hl3 (by decide) (by simp; omega)).mono ?_
      rintro en w4 ⟨rfl, hg4⟩
      have hbs : Beside (w3.setCell ⟨g, 8, none⟩ (.slice (some ⟨b, 0, none⟩) (fl.eraseIdx j).length cap)) w4 g (.slice (some ⟨b, 0, none⟩) (fl.eraseIdx j).length cap) := by obtain ⟨v', _, hbs, _⟩ := hg4; exact hbs
      have s0 := (HR3.out.beside hbs (by omega) (HVB.out _ (by omega))).cell
      have g0 := (HR3.out.beside hbs (by omega) (HVB.out _ (by omega))).free
      have s4 := (HE3.out.beside hbs (by omega) (HVB.out _ (by omega))).cell
      have HG := Lib.hid (PairGoes.cast hg4 (v2 := .slice (some ⟨b, 0, none⟩) n cap) rfl); clear hg4 q3 q4 a8 f8
      have hE1 : E ≠ w.heap.size := by omega
      go_wp2_with fail
      exact bodyPost_ret (v := .tuple #[.agg #[.int .i64 e.seat.p, .int .i64 e.seat.d, .int .i64 e.seat.s, .int .i64 e.seat.h, .int .i64 e.send, .int .i64 e.fault, .int .i64 e.work, .bool e.ch], .nilIface]) (by simp [results, Tryd.results15, go_sem, s0, g0]) rfl ⟨rfl, PairGoes.res HB3.out HG.out (Nat.le_refl _) (by simp; omega) e3 (HVB.out _ (Nat.le_refl _))⟩
end Go.Proofs.YtkanakhlmmpapaaDoor
