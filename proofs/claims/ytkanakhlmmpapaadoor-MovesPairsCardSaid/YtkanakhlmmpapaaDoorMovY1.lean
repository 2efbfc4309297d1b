/- The reference's pair in memory (liaisonref11): Deliver with copies, to the coordinator and to the participant. -/
import Derived.Test.YtkanakhlmmpapaaDoorRows
import Derived.WalkKit
import Derived.WalkSpells
import Derived.WalkLawsBesides
import Derived.BigQuiet
import Derived.Deep.QuietTactic
import Derived.StillTailTactics
import Derived.Handy
import Derived.Lib.Hide
import Derived.Test.YtkanakhlmmpapaaDoorMovY
import Derived.Deep.CutRange
set_option linter.unusedSimpArgs false
set_option linter.unusedVariables false
namespace Go.Proofs.YtkanakhlmmpapaaDoor
open Go.RowKit

set_option maxRecDepth 100000 in
set_option maxHeartbeats 8000000 in
theorem gpdeliver1t (B g sb b cap : Nat) (P : MPair) (j : Nat) (k : Int) (e : Eff) (w : World) (h : RefIn B g sb (.slice (some ⟨b, 0, none⟩) P.fl.length cap) P w) (hl : P.fl.length ≤ 1000) (hB : B ≤ w.heap.size)
    (hj : j < P.fl.length) (hjk : P.fl[j] = (1, k)) (hc : ¬ (true = true ∧ mFull P = true)) (he : mTell P.c k = (e, 0)) :
    Calls Tryd.prog 54 #[.pointer (some ⟨g, 0, none⟩), .int .i64 j, .bool true] w fun en w' => en = .returned (.tuple #[effV e, .int .i64 0]) ∧ RefGoes B g sb (.slice (some ⟨b, 0, none⟩) P.fl.length cap) ((mCut ⟨e.seat, P.x, P.fl⟩ j true).put 1 e.send) w w' := by
  have a8 : w.cell? ⟨g, 1, none⟩ = some (.slice (some ⟨b, 0, none⟩) P.fl.length cap) := h.blk.cell 1
  have a0 : w.cell? ⟨g, 0, none⟩ = some (.slice (some ⟨sb, 0, none⟩) 2 2) := h.blk.cell 0
  have hT := fun W => gtell_of P.c k W
  rw [← (eq_any P.c k).1, he] at hT
  have hcap : P.fl.length ≤ cap := by
    rcases h.own.2 with ⟨h', _⟩ | ⟨g', cap', cur, h', hb, hg, hnc, _⟩
    · simp at h'
    · simp only [Value.slice.injEq, Option.some.injEq, Addr.mk.injEq, and_true, true_and] at h'
      obtain ⟨rfl, rfl⟩ := h'
      exact hnc
  have hfv := flV_at P.fl j hj
  rw [hjk] at hfv
  have c1 : w.cell? ⟨b, j * 2, none⟩ = some (.int .i64 1) := (h.own.cellAt _ (by omega)).trans hfv.1
  have c2 : w.cell? ⟨b, j * 2 + 1, none⟩ = some (.int .i64 k) := (h.own.cellAt _ (by omega)).trans hfv.2
  have hbl : b < w.heap.size := (h.own.lt b rfl).2
  have hgl := h.blk.lt
  have hsl := h.sblk.lt
  have hgs := h.ne
  have hbg : b ≠ g := fun e => h.apart (by rw [e]; rfl)
  have hbs' : b ≠ sb := fun e => h.aparts (by rw [e]; rfl)
  have hfull : mFull P = decide ((63 : Int) < (P.fl.length : Int)) := by unfold mFull; rw [Bool.eq_iff_iff]; simp; omega
  rw [hfull] at hc
  have H := Lib.hid h; clear h he hjk hfv hfull
  obtain ⟨cc, x, fl⟩ := P
  obtain ⟨n, hn⟩ : ∃ n, n = fl.length := ⟨_, rfl⟩
  dsimp only [seatV, effV] at *
  rw [← hn] at hl a8 H hc hcap hj ⊢
  have HN := Lib.hid hn; clear hn
  have h2 : (0 : Int) ≤ (j : Int) := by omega
  have h4 : (j : Int) < (n : Int) := by omega
  have HT := Lib.hid hT; clear hT
  have hlen : (n : Int) ≤ 63 := by simp at hc; omega
  clear hc
  go_enter Tryd.func54, Tryd.ntmps54
  go_wp2_with fail
  go_cut [9, 10] from 11 to 53 (fun s9 s10 wx => ∃ E, s9 = .pointer (some ⟨E, 0, none⟩) ∧ s10 = .int .i64 0 ∧ MidR B g sb (.slice (some ⟨b, 0, none⟩) n cap) ⟨cc, x, fl⟩ 1 k e w E wx)
  case first =>
    have q1 := (H.out.rel (((Below.refl w.heap.size w).alloc (Nat.le_refl _) (.cells zeroCells8 51)).alloc (by simp) (.cells #[.int .i64 1, .int .i64 k] 67))).sblk.cell
    have q0 := (H.out.rel (((Below.refl w.heap.size w).alloc (Nat.le_refl _) (.cells zeroCells8 51)).alloc (by simp) (.cells #[.int .i64 1, .int .i64 k] 67))).blk.cell
    have q3 := (Blk.fresh (w.alloc (.cells zeroCells8 51)) #[.int .i64 1, .int .i64 k] 67 (w.heap.size + 1) (by simp)).cell
    have hw0 : IntKind.i64.wrap 0 = 0 := by decide
    have hgn1 : g ≠ w.heap.size + 1 + 1 := by omega
    have hgn3 : sb ≠ w.heap.size + 1 + 1 := by omega
    have hgn4 : w.heap.size + 1 + 1 ≠ sb := by omega
    have hgn2 : w.heap.size + 1 + 1 ≠ g := by omega
    go_region_held3 (fun w' => w'.cell? ⟨w.heap.size + 1, 0, none⟩ = some (.int .i64 1) ∧ w'.cell? ⟨w.heap.size + 1, 1, none⟩ = some (.int .i64 k) ∧ w'.cell? ⟨sb, 0, none⟩ = some (.int .i64 cc.p) ∧ w'.cell? ⟨sb, 1, none⟩ = some (.int .i64 cc.d) ∧ w'.cell? ⟨sb, 2, none⟩ = some (.int .i64 cc.s) ∧ w'.cell? ⟨sb, 3, none⟩ = some (.int .i64 cc.h) ∧ w'.cell? ⟨g, 0, none⟩ = some (.slice (some ⟨sb, 0, none⟩) 2 2))
      (first | go_keep | exact ⟨q3 0, q3 1, q1 0, q1 1, q1 2, q1 3, q0 0⟩ | exact ⟨r3 _ 0, r3 _ 1, r1 _ 0, r1 _ 1, r1 _ 2, r1 _ 3, r0 _ 0⟩ | ((repeat' apply And.intro) <;> go_keep) | ((repeat' apply And.intro) <;> simp [q0, q1, q3, hgn1, hgn2, hgn3, hgn4]))
      (first
        | (go_at_call 20; refine (HT.out (World.drew (((w.alloc (.cells zeroCells8 51)).alloc (.cells #[.int .i64 1, .int .i64 k] 67)).alloc (.cells zeroCells8 51)))).mono ?_; rintro e w1 ⟨rfl, hb1⟩; have HB1 : Below w.heap.size w w1 := below_then (by go_grown) hb1; have HP1 := Lib.hid (H.out.rel HB1); have HR1 := Lib.hid (((Blk.fresh w zeroCells8 51 _ rfl).below (by go_grown)).below hb1); have HF1 := Lib.hid (((Blk.fresh (w.alloc (.cells zeroCells8 51)) #[.int .i64 1, .int .i64 k] 67 (w.heap.size + 1) (by simp only [World.size_alloc])).below (by go_grown)).below hb1); clear q1 q3 q0; have q1 := HP1.out.sblk.cell; have q0 := HP1.out.blk.cell; have r0 := fun o => (HP1.out.blk.alloc o).cell; have q3 := HF1.out.cell; have r1 := fun o => (HP1.out.sblk.alloc o).cell; have r3 := fun o => (HF1.out.alloc o).cell; have hz1 := hb1.size; simp only [World.size_alloc, World.size_drew] at hz1; have HE1 := Lib.hid ((Blk.fresh ((w.alloc (.cells zeroCells8 51)).alloc (.cells #[.int .i64 1, .int .i64 k] 67)) zeroCells8 51 (w.heap.size + 1 + 1) (by simp only [World.size_alloc])).drew.below hb1); have q4 := HE1.out.cell; have f4 := HE1.out.free)
        | (go_at_call 20; refine (HT.out _).mono ?_; rintro e w1 ⟨rfl, hb1⟩; have HB1 : Below w.heap.size w w1 := below_then (by go_grown) hb1; have HP1 := Lib.hid (H.out.rel HB1); have HR1 := Lib.hid (((Blk.fresh w zeroCells8 51 _ rfl).below (by go_grown)).below hb1); have HF1 := Lib.hid (((Blk.fresh (w.alloc (.cells zeroCells8 51)) #[.int .i64 1, .int .i64 k] 67 (w.heap.size + 1) (by simp only [World.size_alloc])).below (by go_grown)).below hb1); clear q1 q3 q0; have q1 := HP1.out.sblk.cell; have q0 := HP1.out.blk.cell; have r0 := fun o => (HP1.out.blk.alloc o).cell; have q3 := HF1.out.cell; have r1 := fun o => (HP1.out.sblk.alloc o).cell; have r3 := fun o => (HF1.out.alloc o).cell; have hz1 := hb1.size; simp only [World.size_alloc, World.size_drew] at hz1))
    all_goals (go_wp2_with fail; go_meet)
    · exact ⟨w1.heap.size, rfl, rfl, ⟨HB1.alloc HB1.size _, HP1.out.rel ((Below.refl _ _).alloc (Nat.le_refl _) _), HR1.out.alloc _, HF1.out.alloc _, Blk.fresh w1 _ _ _ rfl, by omega⟩⟩
    · exact ⟨w.heap.size + 1 + 1, rfl, rfl, MidR.put HB1 HP1.out HR1.out HF1.out HE1.out (by omega) (by omega) (by omega) (by simp [Value.ownBlock]; omega)⟩
  case rest =>
    obtain ⟨E, rfl, rfl, hM⟩ := hcut
    have q1 := hM.pr.sblk.cell
    have f1 := hM.pr.sblk.free
    have q0 := hM.pr.blk.cell
    have q3 := hM.f1.cell
    have q4 := hM.ee.cell
    have hne := hM.ne
    have e1 : sb ≠ E := by omega
    have e2 : sb ≠ w.heap.size + 1 := by omega
    have e3 : sb ≠ w.heap.size := by omega
    have HPs := Lib.hid ((hM.pr.seat1 e.seat).rel ((Below.refl _ _).drew))
    have HBs := Lib.hid ((((((BesideR.of_below hM.be g sb (.slice (some ⟨b, 0, none⟩) n cap)).setSeat 0 (.int .i64 e.seat.p)).setSeat (0 + 1) (.int .i64 e.seat.d)).setSeat (0 + 2) (.int .i64 e.seat.s)).setSeat (0 + 3) (.int .i64 e.seat.h)).then_below ((Below.refl _ _).drew))
    have HR := Lib.hid ((hM.r0.seat (o := 0) e.seat e3).drew)
    have HFs := Lib.hid ((hM.f1.seat (o := 0) e.seat e2).drew)
    have HEs := Lib.hid ((hM.ee.seat (o := 0) e.seat e1).drew)
    have hzs := hM.be.size
    have hE0 := hM.r0.lt
    have HM := Lib.hid hM; clear hM
    go_wp2_with fail
    go_region
    have hl2 : fl.length ≤ 1000 := by rw [← HN.out]; exact hl
    have hvb : ∀ m, w.heap.size ≤ m → (Value.slice (some ⟨b, 0, none⟩) n cap).ownBlock ≠ some m := fun m hm e => by simp [Value.ownBlock] at e; omega
    have HVB := Lib.hid hvb; clear hvb
    go_wp2_with fail
    refine (gput_of B g sb (.slice (some ⟨b, 0, none⟩) n cap) ⟨e.seat, x, fl⟩ 1 e.send _ HPs.out hl2 (by decide) (by simp [putSeat]; omega)).mono ?_
    rintro en w3 ⟨rfl, hg3⟩
    have hbs : BesideR (World.drew (putSeat wc sb 0 e.seat)) w3 g sb (.slice (some ⟨b, 0, none⟩) n cap) := by obtain ⟨v', _, hbs, _⟩ := hg3; exact hbs
    have s0 := (HR.out.besideR hbs (by omega) (by omega) (HVB.out _ (by omega))).cell
    have g0 := (HR.out.besideR hbs (by omega) (by omega) (HVB.out _ (by omega))).free
    have s4 := (HEs.out.besideR hbs (by omega) (by omega) (HVB.out _ (by omega))).cell
    have HG := Lib.hid hg3; clear hg3 q1 f1 q3 q4 q0
    have hE1 : E ≠ w.heap.size := by omega
    go_wp2_with fail
    exact bodyPost_ret (v := .tuple #[.agg #[.int .i64 e.seat.p, .int .i64 e.seat.d, .int .i64 e.seat.s, .int .i64 e.seat.h, .int .i64 e.send, .int .i64 e.fault, .int .i64 e.work, .bool e.ch], .int .i64 0]) (by simp [results, Tryd.results54, go_sem, s0, g0]) rfl ⟨rfl, RefGoes.res HBs.out HG.out (Nat.le_refl _) (by simp [putSeat]; omega) (by omega) e3 (HVB.out _ (Nat.le_refl _))⟩
set_option maxRecDepth 100000 in
set_option maxHeartbeats 8000000 in
theorem gpdeliver2t (B g sb b cap : Nat) (P : MPair) (j : Nat) (k : Int) (e : Eff) (w : World) (h : RefIn B g sb (.slice (some ⟨b, 0, none⟩) P.fl.length cap) P w) (hl : P.fl.length ≤ 1000) (hB : B ≤ w.heap.size)
    (hj : j < P.fl.length) (hjk : P.fl[j] = (2, k)) (hc : ¬ (true = true ∧ mFull P = true)) (he : mTell P.x k = (e, 0)) :
    Calls Tryd.prog 54 #[.pointer (some ⟨g, 0, none⟩), .int .i64 j, .bool true] w fun en w' => en = .returned (.tuple #[effV e, .int .i64 0]) ∧ RefGoes B g sb (.slice (some ⟨b, 0, none⟩) P.fl.length cap) ((mCut ⟨P.c, e.seat, P.fl⟩ j true).put 2 e.send) w w' := by
  have a8 : w.cell? ⟨g, 1, none⟩ = some (.slice (some ⟨b, 0, none⟩) P.fl.length cap) := h.blk.cell 1
  have a0 : w.cell? ⟨g, 0, none⟩ = some (.slice (some ⟨sb, 0, none⟩) 2 2) := h.blk.cell 0
  have hT := fun W => gtell_of P.x k W
  rw [← (eq_any P.x k).1, he] at hT
  have hcap : P.fl.length ≤ cap := by
    rcases h.own.2 with ⟨h', _⟩ | ⟨g', cap', cur, h', hb, hg, hnc, _⟩
    · simp at h'
    · simp only [Value.slice.injEq, Option.some.injEq, Addr.mk.injEq, and_true, true_and] at h'
      obtain ⟨rfl, rfl⟩ := h'
      exact hnc
  have hfv := flV_at P.fl j hj
  rw [hjk] at hfv
  have c1 : w.cell? ⟨b, j * 2, none⟩ = some (.int .i64 2) := (h.own.cellAt _ (by omega)).trans hfv.1
  have c2 : w.cell? ⟨b, j * 2 + 1, none⟩ = some (.int .i64 k) := (h.own.cellAt _ (by omega)).trans hfv.2
  have hbl : b < w.heap.size := (h.own.lt b rfl).2
  have hgl := h.blk.lt
  have hsl := h.sblk.lt
  have hgs := h.ne
  have hbg : b ≠ g := fun e => h.apart (by rw [e]; rfl)
  have hbs' : b ≠ sb := fun e => h.aparts (by rw [e]; rfl)
  have hfull : mFull P = decide ((63 : Int) < (P.fl.length : Int)) := by unfold mFull; rw [Bool.eq_iff_iff]; simp; omega
  rw [hfull] at hc
  have H := Lib.hid h; clear h he hjk hfv hfull
  obtain ⟨cc, x, fl⟩ := P
  obtain ⟨n, hn⟩ : ∃ n, n = fl.length := ⟨_, rfl⟩
  dsimp only [seatV, effV] at *
  rw [← hn] at hl a8 H hc hcap hj ⊢
  have HN := Lib.hid hn; clear hn
  have h2 : (0 : Int) ≤ (j : Int) := by omega
  have h4 : (j : Int) < (n : Int) := by omega
  have HT := Lib.hid hT; clear hT
  have hlen : (n : Int) ≤ 63 := by simp at hc; omega
  clear hc
  go_enter Tryd.func54, Tryd.ntmps54
  go_wp2_with fail
  go_cut [9, 10] from 11 to 53 (fun s9 s10 wx => ∃ E, s9 = .pointer (some ⟨E, 0, none⟩) ∧ s10 = .int .i64 0 ∧ MidR B g sb (.slice (some ⟨b, 0, none⟩) n cap) ⟨cc, x, fl⟩ 2 k e w E wx)
  case first =>
    have q1 := (H.out.rel (((Below.refl w.heap.size w).alloc (Nat.le_refl _) (.cells zeroCells8 51)).alloc (by simp) (.cells #[.int .i64 2, .int .i64 k] 67))).sblk.cell
    have q0 := (H.out.rel (((Below.refl w.heap.size w).alloc (Nat.le_refl _) (.cells zeroCells8 51)).alloc (by simp) (.cells #[.int .i64 2, .int .i64 k] 67))).blk.cell
    have q3 := (Blk.fresh (w.alloc (.cells zeroCells8 51)) #[.int .i64 2, .int .i64 k] 67 (w.heap.size + 1) (by simp)).cell
    have hw0 : IntKind.i64.wrap 1 = 1 := by decide
    have hgn1 : g ≠ w.heap.size + 1 + 1 := by omega
    have hgn3 : sb ≠ w.heap.size + 1 + 1 := by omega
    have hgn4 : w.heap.size + 1 + 1 ≠ sb := by omega
    have hgn2 : w.heap.size + 1 + 1 ≠ g := by omega
    go_region_held3 (fun w' => w'.cell? ⟨w.heap.size + 1, 0, none⟩ = some (.int .i64 2) ∧ w'.cell? ⟨w.heap.size + 1, 1, none⟩ = some (.int .i64 k) ∧ w'.cell? ⟨sb, 4, none⟩ = some (.int .i64 x.p) ∧ w'.cell? ⟨sb, 5, none⟩ = some (.int .i64 x.d) ∧ w'.cell? ⟨sb, 6, none⟩ = some (.int .i64 x.s) ∧ w'.cell? ⟨sb, 7, none⟩ = some (.int .i64 x.h) ∧ w'.cell? ⟨g, 0, none⟩ = some (.slice (some ⟨sb, 0, none⟩) 2 2))
      (first | go_keep | exact ⟨q3 0, q3 1, q1 4, q1 5, q1 6, q1 7, q0 0⟩ | exact ⟨r3 _ 0, r3 _ 1, r1 _ 4, r1 _ 5, r1 _ 6, r1 _ 7, r0 _ 0⟩ | ((repeat' apply And.intro) <;> go_keep) | ((repeat' apply And.intro) <;> simp [q0, q1, q3, hgn1, hgn2, hgn3, hgn4]))
      (first
        | (go_at_call 20; refine (HT.out (World.drew (((w.alloc (.cells zeroCells8 51)).alloc (.cells #[.int .i64 2, .int .i64 k] 67)).alloc (.cells zeroCells8 51)))).mono ?_; rintro e w1 ⟨rfl, hb1⟩; have HB1 : Below w.heap.size w w1 := below_then (by go_grown) hb1; have HP1 := Lib.hid (H.out.rel HB1); have HR1 := Lib.hid (((Blk.fresh w zeroCells8 51 _ rfl).below (by go_grown)).below hb1); have HF1 := Lib.hid (((Blk.fresh (w.alloc (.cells zeroCells8 51)) #[.int .i64 2, .int .i64 k] 67 (w.heap.size + 1) (by simp only [World.size_alloc])).below (by go_grown)).below hb1); clear q1 q3 q0; have q1 := HP1.out.sblk.cell; have q0 := HP1.out.blk.cell; have r0 := fun o => (HP1.out.blk.alloc o).cell; have q3 := HF1.out.cell; have r1 := fun o => (HP1.out.sblk.alloc o).cell; have r3 := fun o => (HF1.out.alloc o).cell; have hz1 := hb1.size; simp only [World.size_alloc, World.size_drew] at hz1; have HE1 := Lib.hid ((Blk.fresh ((w.alloc (.cells zeroCells8 51)).alloc (.cells #[.int .i64 2, .int .i64 k] 67)) zeroCells8 51 (w.heap.size + 1 + 1) (by simp only [World.size_alloc])).drew.below hb1); have q4 := HE1.out.cell; have f4 := HE1.out.free)
        | (go_at_call 20; refine (HT.out _).mono ?_; rintro e w1 ⟨rfl, hb1⟩; have HB1 : Below w.heap.size w w1 := below_then (by go_grown) hb1; have HP1 := Lib.hid (H.out.rel HB1); have HR1 := Lib.hid (((Blk.fresh w zeroCells8 51 _ rfl).below (by go_grown)).below hb1); have HF1 := Lib.hid (((Blk.fresh (w.alloc (.cells zeroCells8 51)) #[.int .i64 2, .int .i64 k] 67 (w.heap.size + 1) (by simp only [World.size_alloc])).below (by go_grown)).below hb1); clear q1 q3 q0; have q1 := HP1.out.sblk.cell; have q0 := HP1.out.blk.cell; have r0 := fun o => (HP1.out.blk.alloc o).cell; have q3 := HF1.out.cell; have r1 := fun o => (HP1.out.sblk.alloc o).cell; have r3 := fun o => (HF1.out.alloc o).cell; have hz1 := hb1.size; simp only [World.size_alloc, World.size_drew] at hz1))
    all_goals (go_wp2_with fail; go_meet)
    · exact ⟨w1.heap.size, rfl, rfl, ⟨HB1.alloc HB1.size _, HP1.out.rel ((Below.refl _ _).alloc (Nat.le_refl _) _), HR1.out.alloc _, HF1.out.alloc _, Blk.fresh w1 _ _ _ rfl, by omega⟩⟩
    · exact ⟨w.heap.size + 1 + 1, rfl, rfl, MidR.put HB1 HP1.out HR1.out HF1.out HE1.out (by omega) (by omega) (by omega) (by simp [Value.ownBlock]; omega)⟩
  case rest =>
    obtain ⟨E, rfl, rfl, hM⟩ := hcut
    have q1 := hM.pr.sblk.cell
    have f1 := hM.pr.sblk.free
    have q0 := hM.pr.blk.cell
    have q3 := hM.f1.cell
    have q4 := hM.ee.cell
    have hne := hM.ne
    have e1 : sb ≠ E := by omega
    have e2 : sb ≠ w.heap.size + 1 := by omega
    have e3 : sb ≠ w.heap.size := by omega
    have HPs := Lib.hid ((hM.pr.seat2 e.seat).rel ((Below.refl _ _).drew))
    have HBs := Lib.hid ((((((BesideR.of_below hM.be g sb (.slice (some ⟨b, 0, none⟩) n cap)).setSeat 4 (.int .i64 e.seat.p)).setSeat (4 + 1) (.int .i64 e.seat.d)).setSeat (4 + 2) (.int .i64 e.seat.s)).setSeat (4 + 3) (.int .i64 e.seat.h)).then_below ((Below.refl _ _).drew))
    have HR := Lib.hid ((hM.r0.seat (o := 4) e.seat e3).drew)
    have HFs := Lib.hid ((hM.f1.seat (o := 4) e.seat e2).drew)
    have HEs := Lib.hid ((hM.ee.seat (o := 4) e.seat e1).drew)
    have hzs := hM.be.size
    have hE0 := hM.r0.lt
    have HM := Lib.hid hM; clear hM
    go_wp2_with fail
    go_region
    have hl2 : fl.length ≤ 1000 := by rw [← HN.out]; exact hl
    have hvb : ∀ m, w.heap.size ≤ m → (Value.slice (some ⟨b, 0, none⟩) n cap).ownBlock ≠ some m := fun m hm e => by simp [Value.ownBlock] at e; omega
    have HVB := Lib.hid hvb; clear hvb
    go_wp2_with fail
    refine (gput_of B g sb (.slice (some ⟨b, 0, none⟩) n cap) ⟨cc, e.seat, fl⟩ 2 e.send _ HPs.out hl2 (by decide) (by simp [putSeat]; omega)).mono ?_
    rintro en w3 ⟨rfl, hg3⟩
    have hbs : BesideR (World.drew (putSeat wc sb 4 e.seat)) w3 g sb (.slice (some ⟨b, 0, none⟩) n cap) := by obtain ⟨v', _, hbs, _⟩ := hg3; exact hbs
    have s0 := (HR.out.besideR hbs (by omega) (by omega) (HVB.out _ (by omega))).cell
    have g0 := (HR.out.besideR hbs (by omega) (by omega) (HVB.out _ (by omega))).free
    have s4 := (HEs.out.besideR hbs (by omega) (by omega) (HVB.out _ (by omega))).cell
    have HG := Lib.hid hg3; clear hg3 q1 f1 q3 q4 q0
    have hE1 : E ≠ w.heap.size := by omega
    go_wp2_with fail
    exact bodyPost_ret (v := .tuple #[.agg #[.int .i64 e.seat.p, .int .i64 e.seat.d, .int .i64 e.seat.s, .int .i64 e.seat.h, .int .i64 e.send, .int .i64 e.fault, .int .i64 e.work, .bool e.ch], .int .i64 0]) (by simp [results, Tryd.results54, go_sem, s0, g0]) rfl ⟨rfl, RefGoes.res HBs.out HG.out (Nat.le_refl _) (by simp [putSeat]; omega) (by omega) e3 (HVB.out _ (Nat.le_refl _))⟩
end Go.Proofs.YtkanakhlmmpapaaDoor
