/- slices.SortFunc on timers: the laying, what it leaves of a row. -/
import Derived.Test.YtkidljiffeonjaaDoorRows
import Derived.WalkKit
import Derived.WalkSpells
import Derived.WalkLawsBesides
import Derived.BigQuiet
import Derived.Deep.QuietTactic
import Derived.StillTailTactics
import Derived.Handy
import Derived.Lib.Hide
import Derived.Test.YtkidljiffeonjaaDoorTimI
import Derived.Test.YtkidljiffeonjaaDoorTimJ
import Derived.Test.YtkidljiffeonjaaDoorTimK
import Derived.Shelf.SlSortCmp.NoneTotal
import Derived.Shelf.Lay
import Derived.Ground.SlsfProg
set_option linter.unusedSimpArgs false
set_option linter.unusedVariables false
namespace Go.Proofs.YtkidljiffeonjaaDoor
open Go.RowKit Go.Maps Go.Shelf

shelf_lay_g SlLaysF0.n6 Slsf 6 at Tryd 75 as timSort

/-- a sorted row of the same timers; nothing else that was there has turned -/
def SortDone (g : Nat) (ts : List MTimer) (w : World) (e : Ending) (w' : World) : Prop :=
  e = .returned (.tuple #[]) ∧ ∃ ts' : List MTimer, ts'.Perm ts ∧ ts'.Pairwise (fun a b => tlt b a = false) ∧ RowT w' g ts' ∧ Two g g w w'
theorem sort_of (g cap : Nat) (ts : List MTimer) (w : World) (hr : RowT w g ts) (hf : ∀ i, w.frozen? ⟨g, i, none⟩ = false) (hg : ∀ t ∈ ts, t.at_ ≤ 9218868437227405312) (hb : g < w.heap.size) (hl : ts.length ≤ 1000) :
    Calls Tryd.prog 75 #[.slice (some ⟨g, 0, none⟩) ts.length cap, .func (.func 76) #[] #[]] w (SortDone g ts w) := by
  have eg : ∀ args w, (callFunc 76 args).run Tryd.prog w = .ok (.enter 76 args) w := enters_of Tryd.func76 (by kernel_rfl) rfl
  have hc : CmpLays Tryd.prog 76 #[] encT 5 cfT g 0 ts.toArray.size w := fun m os dk _ x y =>
    closure_of (clampT x) (clampT y) (clampT_le x) (clampT_le y) _
  have hcon := AnyQ.slices_SortFunc timSort 5 Tryd.isAgg135 Tryd.sizeOf135 encT (fun _ => rfl) (fun x v hv => by simp [encT] at hv; rcases hv with rfl | rfl | rfl | rfl | rfl <;> rfl) cfT swoT 76 #[] g 0 cap ts.toArray w eg hc (holds_row hr hf hg) hb (by simp; omega)
  change Calls Tryd.prog 75 _ _ _ at hcon
  refine hcon.mono ?_
  rintro e w' ⟨rfl, d', n, os, hp, hs, rfl⟩
  have hperm := perm_in hp
  have hg' : ∀ t ∈ d'.toList, t.at_ ≤ 9218868437227405312 := fun t ht => hg t (by simpa using hperm.mem_iff.1 ht)
  have hH := holdsK_sortWorldK_c encT 5 w g 0 ts.toArray d' n os (holds_row hr hf hg) hb hp.1
  exact ⟨rfl, d'.toList, by simpa using hperm, sorted_in hp.1 hs hg', row_holds hH hg', sortWorld_two w g n d' os⟩
theorem sort_none (cap : Nat) (fv : Value) (w : World) : Calls Tryd.prog 75 #[.slice none 0 cap, fv] w fun e w' => e = .returned (.tuple #[]) ∧ w' = w :=
  AnyF.slices_SortFunc_none timSort none cap fv w
end Go.Proofs.YtkidljiffeonjaaDoor
