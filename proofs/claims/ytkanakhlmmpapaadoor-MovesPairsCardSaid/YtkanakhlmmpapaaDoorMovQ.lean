/- The reference's Deliver, whole; two pairs in memory, one of each package; one op on both (liaisonlaw11.step). -/
import Derived.Test.YtkanakhlmmpapaaDoorRows
import Derived.WalkKit
import Derived.WalkSpells
import Derived.WalkLawsBesides
import Derived.BigQuiet
import Derived.Deep.QuietTactic
import Derived.StillTailTactics
import Derived.Handy
import Derived.Lib.Hide
import Derived.Test.YtkanakhlmmpapaaDoorMovY1
import Derived.Test.YtkanakhlmmpapaaDoorMovZ1
import Derived.Test.YtkanakhlmmpapaaDoorMovZ2
import Derived.Test.YtkanakhlmmpapaaDoorLawSeats
import Derived.Deep.RegionHeld3
set_option linter.unusedSimpArgs false
set_option linter.unusedVariables false
namespace Go.Proofs.YtkanakhlmmpapaaDoor
open Go.RowKit

theorem gpdeliver_of (B g sb : Nat) (v : Value) (P : MPair) (i : Int) (copies : Bool) (w : World) (h : RefIn B g sb v P w) (hO : Ok P) (hB : B ≤ w.heap.size) :
    Calls Tryd.prog 54 #[.pointer (some ⟨g, 0, none⟩), .int .i64 i, .bool copies] w fun e w' => e = .returned (.tuple #[effV (mPDeliver P i copies).2.1, .int .i64 (mPDeliver P i copies).2.2]) ∧ RefGoes B g sb v (mPDeliver P i copies).1 w w' := by
  have hl : P.fl.length ≤ 1000 := by have := hO.len; omega
  by_cases hc : i < 0 ∨ (P.fl.length : Int) ≤ i ∨ (copies = true ∧ mFull P = true)
  · exact gpdeliver_err B g sb v P i copies w h hl hc
  · have h1 : ¬ (i < 0 ∨ (P.fl.length : Int) ≤ i) := fun hh => hc (hh.elim .inl (fun h => .inr (.inl h)))
    have h2 : ¬ (copies = true ∧ mFull P = true) := fun hh => hc (.inr (.inr hh))
    obtain ⟨j, rfl⟩ : ∃ j : Nat, i = j := ⟨i.toNat, by omega⟩
    have hj : j < P.fl.length := by omega
    obtain ⟨b, cap, rfl⟩ : ∃ b cap, v = .slice (some ⟨b, 0, none⟩) P.fl.length cap := by
      rcases h.own.2 with ⟨_, h0⟩ | ⟨b, cap, cur, rfl, _⟩
      · omega
      · exact ⟨b, cap, rfl⟩
    have hm := hO.good.tells (List.getElem_mem hj)
    obtain ⟨t, k, hm'⟩ : ∃ t k, P.fl[j] = (t, k) := ⟨_, _, rfl⟩
    rw [hm'] at hm
    have hD : mPDeliver P (j : Int) copies = mGive P j t k copies := by
      unfold mPDeliver
      rw [if_neg h1, if_neg h2, Int.toNat_natCast, List.getD_eq_getElem?_getD, List.getElem?_eq_getElem hj, hm']
      rfl
    rw [hD]
    have h0 : (mTell (P.seat t) k).2 = 0 := hm.2
    unfold mGive
    rw [if_neg (by simpa using h0)]
    obtain ⟨e, he⟩ : ∃ e, e = (mTell (P.seat t) k).1 := ⟨_, rfl⟩
    have het : mTell (P.seat t) k = (e, 0) := by rw [he, ← h0]
    rw [← he]
    rcases hm.1 with h' | h'
    · have h' : t = 1 := h'
      subst h'
      cases copies with
      | true => exact gpdeliver1t B g sb b cap P j k e w h hl hB hj hm' h2 het
      | false => exact gpdeliver1f B g sb b cap P j k e w h hl hB hj hm' h2 het
    · have h' : t = 2 := h'
      subst h'
      cases copies with
      | true => exact gpdeliver2t B g sb b cap P j k e w h hl hB hj hm' h2 het
      | false => exact gpdeliver2f B g sb b cap P j k e w h hl hB hj hm' h2 het

/-- both pairs in memory, nothing of the one in the other -/
structure Duo (B g g' sb : Nat) (v v' : Value) (P Q : MPair) (w : World) : Prop where
  p : PairIn B g v P w
  m : RefIn B g' sb v' Q w
  n1 : g' ≠ g
  n2 : sb ≠ g
  n3 : v.ownBlock ≠ some g'
  n4 : v.ownBlock ≠ some sb
  n5 : v'.ownBlock ≠ some g
  n6 : ∀ k, v'.ownBlock = some k → v.ownBlock ≠ some k
theorem FreshOr.ne {w : World} {v v2 : Value} (h : FreshOr w v v2) {k : Nat} (hk : k < w.heap.size) (hv : v.ownBlock ≠ some k) : v2.ownBlock ≠ some k := by
  rcases h with h | ⟨n, hn, h⟩
  · rw [h]; exact hv
  · rw [h]; intro e; injection e with e; omega
theorem Duo.left {B g g' sb : Nat} {v v' v2 : Value} {P Q P' : MPair} {w w' : World} (h : Duo B g g' sb v v' P Q w) (hp : PairIn B g v2 P' w') (hb : Beside w w' g v) (hf : FreshOr w v v2) : Duo B g g' sb v2 v' P' Q w' :=
  ⟨hp, h.m.other hb.size (hb.block g' h.m.blk.lt h.n1 h.n3) (hb.block sb h.m.sblk.lt h.n2 h.n4) (fun k hk => hb.block k (h.m.own.lt k hk).2 (fun e => h.n5 (e ▸ hk)) (h.n6 k hk)), h.n1, h.n2, hf.ne h.m.blk.lt h.n3, hf.ne h.m.sblk.lt h.n4, h.n5, fun k hk => hf.ne (h.m.own.lt k hk).2 (h.n6 k hk)⟩
theorem Duo.right {B g g' sb : Nat} {v v' v2 : Value} {P Q Q' : MPair} {w w' : World} (h : Duo B g g' sb v v' P Q w) (hp : RefIn B g' sb v2 Q' w') (hb : BesideR w w' g' sb v') (hf : FreshOr w v' v2) : Duo B g g' sb v v2 P Q' w' :=
  ⟨h.p.other hb.size (hb.block g h.p.blk.lt (fun e => h.n1 e.symm) (fun e => h.n2 e.symm) h.n5) (fun k hk => hb.block k (h.p.own.lt k hk).2 (fun e => h.n3 (e ▸ hk)) (fun e => h.n4 (e ▸ hk)) (fun e => h.n6 k e hk)), hp, h.n1, h.n2, h.n3, h.n4, hf.ne h.p.blk.lt h.n5, fun k hk => by
    intro e
    exact hf.ne (h.p.own.lt k e).2 (fun e2 => h.n6 k e2 e) hk⟩
theorem Duo.rel {B g g' sb : Nat} {v v' : Value} {P Q : MPair} {w w' : World} (h : Duo B g g' sb v v' P Q w) (hb : Below w.heap.size w w') : Duo B g g' sb v v' P Q w' :=
  ⟨h.p.rel hb, h.m.rel hb, h.n1, h.n2, h.n3, h.n4, h.n5, h.n6⟩

/-- both pairs behind the world w0, and blocks beside them -/
structure Step (w0 : World) (g g' sb : Nat) (L : List (Nat × Array Value)) (P Q : MPair) (w : World) : Prop where
  be : Below w0.heap.size w0 w
  ex : ∃ v v', Duo w0.heap.size g g' sb v v' P Q w ∧ ∀ x ∈ L, v.ownBlock ≠ some x.1 ∧ v'.ownBlock ≠ some x.1
  bl : ∀ x ∈ L, Blk w x.1 x.2 ∧ x.1 ≠ g ∧ x.1 ≠ g' ∧ x.1 ≠ sb
theorem Step.rel {w0 : World} {g g' sb : Nat} {L : List (Nat × Array Value)} {P Q : MPair} {w w' : World} (h : Step w0 g g' sb L P Q w) (hb : Below w.heap.size w w') : Step w0 g g' sb L P Q w' := by
  obtain ⟨v, v', hd, hv⟩ := h.ex
  exact ⟨below_then h.be hb, ⟨v, v', hd.rel hb, hv⟩, fun x hx => ⟨(h.bl x hx).1.below hb, (h.bl x hx).2⟩⟩
theorem Step.add {w0 : World} {g g' sb : Nat} {L : List (Nat × Array Value)} {P Q : MPair} {w : World} (h : Step w0 g g' sb L P Q w) (C : Array Value) (T : TypeId) : Step w0 g g' sb ((w.heap.size, C) :: L) P Q (w.alloc (.cells C T)) := by
  have h2 := h.rel ((Below.refl _ _).alloc (Nat.le_refl _) (.cells C T))
  obtain ⟨v, v', hd, hv⟩ := h.ex
  obtain ⟨v3, v4, hd3, hv3⟩ := h2.ex
  refine ⟨h2.be, ⟨v, v', hd.rel ((Below.refl _ _).alloc (Nat.le_refl _) _), fun x hx => ?_⟩, fun x hx => ?_⟩
  · rcases List.mem_cons.1 hx with rfl | hx
    · exact ⟨fun e => by have := (hd.p.own.lt _ e).2; omega, fun e => by have := (hd.m.own.lt _ e).2; omega⟩
    · exact hv x hx
  · rcases List.mem_cons.1 hx with rfl | hx
    · have a1 := hd.p.blk.lt; have a2 := hd.m.blk.lt; have a3 := hd.m.sblk.lt
      exact ⟨Blk.fresh w C T _ rfl, by dsimp only; omega, by dsimp only; omega, by dsimp only; omega⟩
    · exact h2.bl x hx
theorem Step.goP {w0 : World} {g g' sb : Nat} {L : List (Nat × Array Value)} {P Q P' : MPair} {w : World} {f : Nat} {args : Array Value} {r : Ending} (h : Step w0 g g' sb L P Q w) (hc : ∀ v, PairIn w0.heap.size g v P w → Calls Tryd.prog f args w fun e w' => e = r ∧ PairGoes w0.heap.size g v P' w w') : Calls Tryd.prog f args w fun e w' => e = r ∧ Step w0 g g' sb L P' Q w' := by
  obtain ⟨v, v', hd, hv⟩ := h.ex
  refine (hc v hd.p).mono ?_
  rintro e w' ⟨rfl, v2, hp, hb, hf⟩
  refine ⟨rfl, ⟨h.be.trans (hb.below hd.p), ⟨v2, v', hd.left hp hb hf, fun x hx => ⟨hf.ne (h.bl x hx).1.lt (hv x hx).1, (hv x hx).2⟩⟩, fun x hx => ⟨(h.bl x hx).1.beside hb (h.bl x hx).2.1 (hv x hx).1, (h.bl x hx).2⟩⟩⟩
theorem Step.goR {w0 : World} {g g' sb : Nat} {L : List (Nat × Array Value)} {P Q Q' : MPair} {w : World} {f : Nat} {args : Array Value} {r : Ending} (h : Step w0 g g' sb L P Q w) (hc : ∀ v, RefIn w0.heap.size g' sb v Q w → Calls Tryd.prog f args w fun e w' => e = r ∧ RefGoes w0.heap.size g' sb v Q' w w') : Calls Tryd.prog f args w fun e w' => e = r ∧ Step w0 g g' sb L P Q' w' := by
  obtain ⟨v, v', hd, hv⟩ := h.ex
  refine (hc v' hd.m).mono ?_
  rintro e w' ⟨rfl, v2, hp, hb, hf⟩
  refine ⟨rfl, ⟨h.be.trans (hb.below hd.m), ⟨v, v2, hd.right hp hb hf, fun x hx => ⟨(hv x hx).1, hf.ne (h.bl x hx).1.lt (hv x hx).2⟩⟩, fun x hx => ⟨(h.bl x hx).1.besideR hb (h.bl x hx).2.2.1 (h.bl x hx).2.2.2 (hv x hx).2, (h.bl x hx).2⟩⟩⟩
theorem Step.blk {w0 : World} {g g' sb : Nat} {L : List (Nat × Array Value)} {P Q : MPair} {w : World} {A : Nat} {C : Array Value} (h : Step w0 g g' sb ((A, C) :: L) P Q w) : Blk w A C := (h.bl (A, C) (List.mem_cons_self ..)).1
theorem Step.tail {w0 : World} {g g' sb : Nat} {x : Nat × Array Value} {L : List (Nat × Array Value)} {P Q : MPair} {w : World} (h : Step w0 g g' sb (x :: L) P Q w) : Step w0 g g' sb L P Q w := by
  obtain ⟨v, v', hd, hv⟩ := h.ex
  exact ⟨h.be, ⟨v, v', hd, fun y hy => hv y (List.mem_cons_of_mem _ hy)⟩, fun y hy => h.bl y (List.mem_cons_of_mem _ hy)⟩

theorem pcode_le (P : MPair) : (∀ d k, 0 ≤ (mPDo P d k).2 ∧ (mPDo P d k).2 ≤ 14) ∧ (∀ i c, 0 ≤ (mPDeliver P i c).2.2 ∧ (mPDeliver P i c).2.2 ≤ 14) ∧ (∀ i, 0 ≤ (mPDrop P i).2 ∧ (mPDrop P i).2 ≤ 14) := by
  refine ⟨fun d k => ?_, fun i c => ?_, fun i => ?_⟩
  · unfold mPDo
    split
    · simp
    split
    · simp
    split
    · exact (code_le _ _).2
    · simp
  · unfold mPDeliver mGive
    split
    · simp
    split
    · simp
    split
    · exact (code_le _ _).1
    · simp
  · unfold mPDrop
    split <;> simp
theorem Step.op {w0 : World} {g g' sb : Nat} {L : List (Nat × Array Value)} {P Q : MPair} {w : World} {x : Nat × Array Value} (h : Step w0 g g' sb L P Q w) (hx : x ∈ L) : Blk w x.1 x.2 := (h.bl x hx).1

set_option maxRecDepth 100000 in
set_option maxHeartbeats 4000000 in
theorem lstep_of (w0 : World) (g g' sb : Nat) (L : List (Nat × Array Value)) (P : MPair) (o : MOp) (ea : Int → Addr) (w : World) (hE : Errs ea w0) (h : Step w0 g g' sb L P P w) (hO : Ok P) :
    Calls Tryd.prog 31 #[.pointer (some ⟨g, 0, none⟩), .pointer (some ⟨g', 0, none⟩), opV o] w fun e w' => e = .returned (.bool true) ∧ Step w0 g g' sb L (lDo P o).1 (lDo P o).1 w' := by
  obtain ⟨wh, sd, kd, at_, cp⟩ := o
  have hS0 := h.add #[.int .i64 wh, .int .i64 sd, .int .i64 kd, .int .i64 at_, .bool cp] 30
  have hl : P.fl.length ≤ 1000 := by have := hO.len; omega
  have hcl := pcode_le P
  unfold lDo
  dsimp only [opV]
  by_cases h1 : wh = 1
  · subst h1
    rw [if_pos rfl]
    obtain ⟨r, hr⟩ : ∃ r, r = mPDo P sd kd := ⟨_, rfl⟩
    have hn := hcl.1 sd kd
    have dp := fun Q W L (hs : Step w0 g g' sb L P Q W) => hs.goP (fun v hp => pdo_of w0.heap.size g v P sd kd ea W (hE.five.below hs.be) hp hl hs.be.size)
    have dm := fun Q W L (hs : Step w0 g g' sb L Q P W) => hs.goR (fun v hp => gpdo_of w0.heap.size g' sb v P sd kd W hp hl hs.be.size)
    rw [← hr] at hn dp dm ⊢
    clear hr h hO hcl hl
    obtain ⟨P2, n⟩ := r
    dsimp only at hn dp dm ⊢
    have NR := Lib.hid (fun W hW => num_n n hn ea W hW)
    have DP := Lib.hid dp; have DM := Lib.hid dm; have HE := Lib.hid hE
    clear dp dm hn hE
    have HS := Lib.hid hS0
    have q := hS0.blk.cell
    clear hS0
    go_enter Tryd.func31, Tryd.ntmps31
    go_wp2_with fail
    go_region_held3 (fun w' => w'.cell? ⟨w.heap.size, 1, none⟩ = some (.int .i64 sd) ∧ w'.cell? ⟨w.heap.size, 2, none⟩ = some (.int .i64 kd))
      (first | exact ⟨q 1, q 2⟩ | go_keep)
      (first
        | (go_at_call 17; refine (DP.out _ _ _ (HS.out.rel (by go_grown))).mono ?_; rintro e w1 ⟨rfl, hs⟩; clear q; have HS := Lib.hid hs; have q := hs.blk.cell; clear hs)
        | (go_at_call 24; refine (NR.out _ (HE.out.below (HS.out.rel (by go_grown)).be)).mono ?_; rintro e w1 ⟨rfl, hb⟩; clear q; have HS := Lib.hid (HS.out.rel (below_then (by go_grown) hb)); have q := HS.out.blk.cell; clear hb)
        | (go_at_call 52; refine (DM.out _ _ _ (HS.out.rel (by go_grown))).mono ?_; rintro e w1 ⟨rfl, hs⟩; clear q; have HS := Lib.hid hs; have q := hs.blk.cell; clear hs))
    all_goals go_wp2_with fail
    all_goals go_ret
    all_goals exact ⟨ret_bool (by simp), (HS.out.rel (by go_grown)).tail⟩
  rw [if_neg h1]
  by_cases h2 : wh = 2
  · subst h2
    rw [if_pos rfl]
    obtain ⟨r, hr⟩ : ∃ r, r = mPAgain P sd := ⟨_, rfl⟩
    have dp := fun Q W L (hs : Step w0 g g' sb L P Q W) => hs.goP (fun v hp => pagain_of w0.heap.size g v P sd ea W (hE.five.below hs.be) hp hl hs.be.size)
    have dm := fun Q W L (hs : Step w0 g g' sb L Q P W) => hs.goR (fun v hp => gpagain_of w0.heap.size g' sb v P sd W hp hl hs.be.size (fun hd => hO.good.waits sd hd))
    rw [← hr] at dp dm ⊢
    clear hr h hO hcl hl
    obtain ⟨P2, n⟩ := r
    dsimp only at dp dm ⊢
    have DP := Lib.hid dp; have DM := Lib.hid dm
    clear dp dm hE
    have HS := Lib.hid hS0
    have q := hS0.blk.cell
    clear hS0
    go_enter Tryd.func31, Tryd.ntmps31
    go_wp2_with fail
    go_region_held3 (fun w' => w'.cell? ⟨w.heap.size, 1, none⟩ = some (.int .i64 sd))
      (first | exact q 1 | go_keep)
      (first
        | (go_at_call 18; refine (DP.out _ _ _ (HS.out.rel (by go_grown))).mono ?_; rintro e w1 ⟨rfl, hs⟩; clear q; have HS := Lib.hid hs; have q := hs.blk.cell; clear hs)
        | (go_at_call 53; refine (DM.out _ _ _ (HS.out.rel (by go_grown))).mono ?_; rintro e w1 ⟨rfl, hs⟩; clear q; have HS := Lib.hid hs; have q := hs.blk.cell; clear hs))
    all_goals go_wp2_with fail
    all_goals go_ret
    all_goals exact ⟨ret_bool (by simp), (HS.out.rel (by go_grown)).tail⟩
  rw [if_neg h2]
  by_cases h3 : wh = 3
  · subst h3
    rw [if_pos rfl]
    obtain ⟨r, hr⟩ : ∃ r, r = mPDeliver P at_ cp := ⟨_, rfl⟩
    have hn := hcl.2.1 at_ cp
    have dp := fun Q W L (hs : Step w0 g g' sb L P Q W) => hs.goP (fun v hp => pdeliver_of w0.heap.size g v P at_ cp ea W (hE.five.below hs.be) hp hO hs.be.size)
    have dm := fun Q W L (hs : Step w0 g g' sb L Q P W) => hs.goR (fun v hp => gpdeliver_of w0.heap.size g' sb v P at_ cp W hp hO hs.be.size)
    rw [← hr] at hn dp dm ⊢
    clear hr h hO hcl hl
    obtain ⟨P2, ef, n⟩ := r
    dsimp only [effV] at hn dp dm ⊢
    have NR := Lib.hid (fun W hW => num_n n hn ea W hW)
    have DP := Lib.hid dp; have DM := Lib.hid dm; have HE := Lib.hid hE
    clear dp dm hn hE
    have HS := Lib.hid hS0
    have q := hS0.blk.cell
    clear hS0
    go_enter Tryd.func31, Tryd.ntmps31
    go_wp2_with fail
    refine (DP.out _ _ _ (HS.out.rel (by go_grown))).mono ?_
    rintro e w1 ⟨rfl, hs⟩
    clear q
    have HS := Lib.hid (hs.add #[.int .i64 ef.seat.p, .int .i64 ef.seat.d, .int .i64 ef.seat.s, .int .i64 ef.seat.h, .int .i64 ef.send, .int .i64 ef.fault, .int .i64 ef.work, .bool ef.ch] 34)
    have q := fun o => (hs.blk.alloc o).cell
    clear hs
    go_wp2_with fail
    refine (DM.out _ _ _ (HS.out.rel (by go_grown))).mono ?_
    rintro e w2 ⟨rfl, hs⟩
    clear q
    have HS := Lib.hid (hs.add #[.int .i64 ef.seat.p, .int .i64 ef.seat.d, .int .i64 ef.seat.s, .int .i64 ef.seat.h, .int .i64 ef.send, .int .i64 ef.fault, .int .i64 ef.work, .bool ef.ch] 51)
    have q := fun o => (hs.blk.alloc o).cell
    clear hs
    go_wp2_with fail
    refine (same_raw _ _ _ _ _ _ _ _ _).mono ?_
    rintro e w3 ⟨rfl, hb⟩
    clear q
    have HS := Lib.hid (HS.out.rel (below_then (by go_grown) hb))
    go_wp2_with fail
    refine (NR.out _ (HE.out.below (HS.out.rel (by go_grown)).be)).mono ?_
    rintro e w4 ⟨rfl, hb4⟩
    have HS := Lib.hid (HS.out.rel (below_then (by go_grown) hb4))
    go_wp2_with fail
    go_ret
    exact ⟨ret_bool (by simp), (HS.out.rel (by go_grown)).tail.tail.tail⟩
  rw [if_neg h3]
  by_cases h4 : wh = 4
  · subst h4
    rw [if_pos rfl]
    obtain ⟨r, hr⟩ : ∃ r, r = mPDrop P at_ := ⟨_, rfl⟩
    have hn := hcl.2.2 at_
    have dp := fun Q W L (hs : Step w0 g g' sb L P Q W) => hs.goP (fun v hp => pdrop_of w0.heap.size g v P at_ ea W (hE.five.below hs.be) hp hl hs.be.size)
    have dm := fun Q W L (hs : Step w0 g g' sb L Q P W) => hs.goR (fun v hp => gpdrop_of w0.heap.size g' sb v P at_ W hp hl hs.be.size)
    rw [← hr] at hn dp dm ⊢
    clear hr h hO hcl hl
    obtain ⟨P2, n⟩ := r
    dsimp only at hn dp dm ⊢
    have NR := Lib.hid (fun W hW => num_n n hn ea W hW)
    have DP := Lib.hid dp; have DM := Lib.hid dm; have HE := Lib.hid hE
    clear dp dm hn hE
    have HS := Lib.hid hS0
    have q := hS0.blk.cell
    clear hS0
    go_enter Tryd.func31, Tryd.ntmps31
    go_wp2_with fail
    go_region_held3 (fun w' => w'.cell? ⟨w.heap.size, 3, none⟩ = some (.int .i64 at_))
      (first | exact q 3 | go_keep)
      (first
        | (go_at_call 32; refine (DP.out _ _ _ (HS.out.rel (by go_grown))).mono ?_; rintro e w1 ⟨rfl, hs⟩; clear q; have HS := Lib.hid hs; have q := hs.blk.cell; clear hs)
        | (go_at_call 24; refine (NR.out _ (HE.out.below (HS.out.rel (by go_grown)).be)).mono ?_; rintro e w1 ⟨rfl, hb⟩; clear q; have HS := Lib.hid (HS.out.rel (below_then (by go_grown) hb)); have q := HS.out.blk.cell; clear hb)
        | (go_at_call 55; refine (DM.out _ _ _ (HS.out.rel (by go_grown))).mono ?_; rintro e w1 ⟨rfl, hs⟩; clear q; have HS := Lib.hid hs; have q := hs.blk.cell; clear hs))
    all_goals go_wp2_with fail
    all_goals go_ret
    all_goals exact ⟨ret_bool (by simp), (HS.out.rel (by go_grown)).tail⟩
  rw [if_neg h4]
  have t1 : (wh == 1) = false := by simpa using h1
  have t2 : (wh == 2) = false := by simpa using h2
  have t3 : (wh == 3) = false := by simpa using h3
  have t4 : (wh == 4) = false := by simpa using h4
  have HS := Lib.hid hS0.tail
  clear h hO hcl hl hS0 h1 h2 h3 h4
  go_enter Tryd.func31, Tryd.ntmps31
  go_wp2_with fail
  go_ret
  exact ⟨rfl, HS.out⟩
end Go.Proofs.YtkanakhlmmpapaaDoor
