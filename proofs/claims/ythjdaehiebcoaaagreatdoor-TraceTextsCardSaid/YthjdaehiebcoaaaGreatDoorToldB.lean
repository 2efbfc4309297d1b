/- catch.told, catch.own: the error that a panic told. -/
import Derived.Test.YthjdaehiebcoaaaGreatDoorRows
import Derived.WalkKit
import Derived.WalkSpells
import Derived.WalkLawsBesides
import Derived.BigQuiet
import Derived.Deep.QuietTactic
import Derived.StillTailTactics
import Derived.Handy
import Derived.Lib.Hide
import Derived.Test.YthjdaehiebcoaaaGreatDoorTold
import Derived.Stop.Asserts
set_option linter.unusedSimpArgs false
set_option linter.unusedVariables false
namespace Go.Proofs.YthjdaehiebcoaaaGreatDoor
open Go.RowKit Go.Stop Go.Extern.Stop

def own14 (ea : Int → Addr) : Array Value := #[errV (ea 1), errV (ea 2), errV (ea 3), errV (ea 4), errV (ea 5), errV (ea 6), errV (ea 7), errV (ea 8), errV (ea 9), errV (ea 10), errV (ea 11), errV (ea 12), errV (ea 13), errV (ea 14)]
theorem own14_of {ea : Int → Addr} (w : World) : Own14 ea (w.alloc (.cells (own14 ea) 26)) w.heap.size := by
  refine ⟨by simp, fun j hj => ?_⟩
  rw [World.cell?_alloc_new]
  match j, hj with
  | 0, _ | 1, _ | 2, _ | 3, _ | 4, _ | 5, _ | 6, _ | 7, _ | 8, _ | 9, _ | 10, _ | 11, _ | 12, _ | 13, _ => rfl
set_option maxRecDepth 100000 in
set_option maxHeartbeats 1000000 in
theorem own_of (ea : Int → Addr) (w : World) (h : Errs ea w) : Calls Tryz.prog 73 #[] w (fun e w' => e = .returned (.slice (some ⟨w.heap.size, 0, none⟩) 14 14) ∧ w' = w.alloc (.cells (own14 ea) 26)) := by
  have h1 : w.cell? ⟨1, 0, none⟩ = some (errV (ea 1)) := h.e1
  have h2 : w.cell? ⟨2, 0, none⟩ = some (errV (ea 2)) := h.e2
  have h3 : w.cell? ⟨3, 0, none⟩ = some (errV (ea 3)) := h.e3
  have h4 : w.cell? ⟨0, 0, none⟩ = some (errV (ea 4)) := h.e4
  have h5 : w.cell? ⟨4, 0, none⟩ = some (errV (ea 5)) := h.e5
  have h6 : w.cell? ⟨5, 0, none⟩ = some (errV (ea 6)) := h.e6
  have h7 : w.cell? ⟨6, 0, none⟩ = some (errV (ea 7)) := h.e7
  have h8 : w.cell? ⟨7, 0, none⟩ = some (errV (ea 8)) := h.e8
  have h9 : w.cell? ⟨8, 0, none⟩ = some (errV (ea 9)) := h.e9
  have h10 : w.cell? ⟨9, 0, none⟩ = some (errV (ea 10)) := h.e10
  have h11 : w.cell? ⟨10, 0, none⟩ = some (errV (ea 11)) := h.e11
  have h12 : w.cell? ⟨11, 0, none⟩ = some (errV (ea 12)) := h.e12
  have h13 : w.cell? ⟨12, 0, none⟩ = some (errV (ea 13)) := h.e13
  have h14 : w.cell? ⟨13, 0, none⟩ = some (errV (ea 14)) := h.e14
  clear h
  go_enter Tryz.func73, Tryz.ntmps73
  go_wp2_with fail
  go_ret
  exact ⟨rfl, rfl⟩
theorem isErr (v : Value) (xT : TypeId) (w : World) : (Instr.typeAssert (.iface 145 v) xT 26 true).run Tryz.prog w = .ok (.tuple #[.iface 145 v, .bool true]) w := run_typeAssert_hasB Tryz.underlying26 (by kernel_rfl) v xT w
set_option maxRecDepth 100000 in
set_option maxHeartbeats 1000000 in
theorem told_of (n : Int) (hn : 1 ≤ n ∧ n ≤ 14) (ea : Int → Addr) (w : World) (h : Errs ea w) : Calls Tryz.prog 50 #[errV (ea n)] w (Makes (errV (ea n)) w) := by
  have hta := isErr (.pointer (some (ea n))) 20
  have hmf : ∀ (fn : Fn) (first cap : Array Value) (w : World), (Instr.makeFunc fn first cap).run Tryz.prog w = .ok (.func fn first cap) w := fun _ _ _ _ => rfl
  have HE := Lib.hid h
  obtain ⟨j, hj⟩ : ∃ j : Nat, n = (j : Int) + 1 := ⟨(n - 1).toNat, by omega⟩
  have hs : n - 1 = (j : Int) := by omega
  have hj14 : j < 14 := by omega
  have HI : Hid (∀ (ka : Addr) (b : Nat) (W : World), Errs ea W → W.cell? ka = some (errV (ea n)) → Own14 ea W b → Calls Tryz.prog 72 #[.slice (some ⟨b, 0, none⟩) 14 14, .func (.func 74) #[] #[.pointer (some ka)]] W (Makes (.int .i64 (j : Int)) W)) := Lib.hid (fun ka b W hE hk ho => by have := indexe_of n hn ea ka b W hE hk ho; rw [hs] at this; exact this)
  obtain ⟨o, ho⟩ : ∃ o, o = Obj.cells (own14 ea) 26 := ⟨_, rfl⟩
  have HO : Hid (∀ W : World, Errs ea W → Calls Tryz.prog 73 #[] W (fun e w' => e = .returned (.slice (some ⟨W.heap.size, 0, none⟩) 14 14) ∧ w' = W.alloc o)) := Lib.hid (fun W hW => by rw [ho]; exact own_of ea W hW)
  have hO1 : ∀ W : World, Own14 ea (W.alloc o) W.heap.size := fun W => by rw [ho]; exact own14_of W
  have hO2 : ∀ W : World, (W.alloc o).cell? ⟨W.heap.size, j, none⟩ = some (errV (ea n)) := fun W => by rw [(hO1 W).2 j (by omega), ← hj]
  obtain ⟨ev, hev⟩ : ∃ ev, ev = errV (ea n) := ⟨_, rfl⟩
  have HO1 := Lib.hid hO1; have HO2 := Lib.hid hO2
  clear h hs hn hj ho hO1 hO2
  go_enter Tryz.func50, Tryz.ntmps50
  go_wp2_with fail
  refine (HO.out _ (HE.out.below (by go_grown))).mono ?_
  rintro e w1 ⟨rfl, rfl⟩
  go_wp2_with fail
  have HQ : Own14 ea ((w.alloc (.cells #[errV (ea n)] 26)).alloc o) (w.heap.size + 1) := by
    have := HO1.out (w.alloc (.cells #[errV (ea n)] 26))
    rwa [World.size_alloc] at this
  refine (HI.out _ _ _ (HE.out.below (by go_grown)) (by simp) HQ).mono ?_
  rintro e w2 ⟨rfl, hb2⟩
  have B2 : Below w.heap.size w w2 := below_then (by go_grown) hb2
  go_wp2_with fail
  refine (HO.out _ (HE.out.below B2)).mono ?_
  rintro e w3 ⟨rfl, rfl⟩
  have hq := HO2.out w2
  go_wp2_with fail
  go_ret
  exact ⟨rfl, B2.alloc B2.size _⟩
end Go.Proofs.YthjdaehiebcoaaaGreatDoor
