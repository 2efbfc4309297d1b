/- What the rows' list of laid variables gives a walk; the frame of a law's row. -/
import Derived.Test.YthjdaehiebcoaaaGreatDoorRows
import Derived.WalkKit
import Derived.WalkSpells
import Derived.WalkLawsBesides
import Derived.BigQuiet
import Derived.Deep.QuietTactic
import Derived.StillTailTactics
import Derived.Handy
import Derived.Lib.Hide
import Derived.Test.YthjdaehiebcoaaaGreatDoorNum
import Derived.ProofKit
import Derived.LaidMore
import Derived.OpenShut
import Derived.Stop.Joined
import Derived.Carry
import Derived.Lib.SmallJoins
import Derived.SevenTiedAt
set_option linter.unusedSimpArgs false
set_option linter.unusedVariables false
namespace Go.Proofs.YthjdaehiebcoaaaGreatDoor
open Go.ChangeShapes Go.WideShapes Go.ChangeAt Go.WideMaps Go.WideElems Go.RowKit

theorem Tryz.own : ownKnob Tryz.prog.godebug = none := by kernel_rfl
theorem Tryz.laidOut : laidOutB Tryz.prog = true := by kernel_rfl
theorem starE : "*" ++ "errors.errorString" = "*errors.errorString" := by decide
theorem rowE (u : TypeId) (h : Tryz.prog.typeName? 3 u = some "*errors.errorString") : u = 145 :=
  typeName_ptr_named (nm := "errors.errorString") (by rw [starE]; kernel_rfl) (by kernel_rfl) (by decide) u (by rw [starE]; exact h)
theorem cellsE : Tryz.prog.cellsOf 167 = 1 := by kernel_rfl
theorem cellsS : Tryz.prog.cellsOf 9 = 1 := by kernel_rfl

/-- a laid error: its number, its variable's name and number, its text -/
structure LaidE where
  num : Int
  name : String
  g : Nat
  text : List UInt8
def LaidE.datum (x : LaidE) : String × DataW Unit := (x.name, .iface "*errors.errorString" (.ptr (.agg [.lit (.string x.text)])))
def LaidE.ok (x : LaidE) : Prop := Tryz.prog.globalNamed x.name = some x.g ∧ (Tryz.prog.globals[x.g]?).map (·.type) = some 26

set_option maxRecDepth 100000 in
theorem sentinels {W : World} : ∀ (L : List LaidE) (ps : List MemPlace), (L.map (·.num)).Nodup → (∀ x ∈ L, x.ok) → DataW.LaidVars Tryz.prog W (L.map LaidE.datum) ps → ps.Nodup →
    (∀ b off, MemPlace.cell b off ∈ ps → (∃ c t, W.heap[b]? = some (.cells c t (0, 0))) ∧ ∀ u v, W.cell? ⟨b, off, none⟩ = some (.iface u v) → Value.okWide Tryz.prog W .any 0 u v) →
    ∃ ea : Int → Addr, (∀ x ∈ L, ErrIs W x.g (ea x.num) ∧ MemPlace.cell (ea x.num).block (ea x.num).off ∈ ps) ∧ (∀ x ∈ L, ∀ y ∈ L, ea x.num = ea y.num → x.num = y.num) := by
  intro L
  induction L with
  | nil => intro ps _ _ _ _ _; exact ⟨fun _ => ⟨0, 0, none⟩, fun x hx => by simp at hx, fun x hx => by simp at hx⟩
  | cons x L ih =>
    intro ps hnum hok h hnd hrows
    obtain ⟨g0, t0, cs0, f0, p0, q0, hg0, ht0, hv0, hd0, hrest, e0⟩ := h
    have hx := hok x (by simp)
    obtain rfl := Option.some.inj (hx.1.symm.trans hg0)
    obtain rfl := Option.some.inj (hx.2.symm.trans ht0)
    subst e0
    obtain ⟨l0⟩ := cs0
    have ok0 : ∀ u v, l0 = [.iface u v] → Value.okWide Tryz.prog W .any 0 u v := fun u v e => by
      subst e
      exact (hrows x.g 0 (by simp [MemPlace.row])).2 u v (by simpa using World.var?_cell hg0 hv0 0)
    obtain ⟨a0, s0, rfl, hc0, hs0, hz0, rfl⟩ := errorString_of_trod Tryz.underlying26 rowE Tryz.underlying145 Tryz.underlying167 rfl rfl Tryz.underlying9 cellsE cellsS hd0 ok0
    have hn2 := List.nodup_append.1 hnd
    obtain ⟨ea, h1, h2⟩ := ih q0 (by simpa using (List.nodup_cons.1 hnum).2) (fun y hy => hok y (by simp [hy])) hrest hn2.2.1 (fun b off hb => hrows b off (by simp [hb]))
    have hne : ∀ y ∈ L, y.num ≠ x.num := fun y hy he => (List.nodup_cons.1 hnum).1 (by
      have := List.mem_map_of_mem (f := LaidE.num) hy
      rw [he] at this; exact this)
    have hin : MemPlace.cell a0.block a0.off ∈ MemPlace.row ⟨x.g, 0, none⟩ #[Value.iface 145 (.pointer (some a0))].size ++ MemPlace.row a0 1 := by simp [MemPlace.row]
    have hcx : ErrIs W x.g a0 := by
      have := World.var?_cell hg0 hv0 0
      simpa [ErrIs] using this
    refine ⟨fun m => if m = x.num then a0 else ea m, fun y hy => ?_, fun y hy z hz he => ?_⟩
    · rcases List.mem_cons.1 hy with e | hy'
      · subst e
        simp only [if_true]
        exact ⟨hcx, List.mem_append_left _ hin⟩
      · simp only [if_neg (hne y hy')]
        exact ⟨(h1 y hy').1, List.mem_append_right _ (h1 y hy').2⟩
    · rcases List.mem_cons.1 hy with e | hy' <;> rcases List.mem_cons.1 hz with e' | hz'
      · rw [e, e']
      · simp only [e, if_true, if_neg (hne z hz')] at he
        have hz2 := (h1 z hz').2
        rw [← he] at hz2
        exact absurd rfl (hn2.2.2 _ hin _ hz2)
      · simp only [e', if_true, if_neg (hne y hy')] at he
        have hy2 := (h1 y hy').2
        rw [he] at hy2
        exact absurd rfl (hn2.2.2 _ hin _ hy2)
      · simp only [if_neg (hne y hy'), if_neg (hne z hz')] at he
        exact h2 y hy' z hz' he

section frame
variable {H : Type} {enc : TypeId × Value → H}
theorem trodAll_below {W W' : World} (hb : Below W.heap.size W W') : ∀ (ts : List TypeId) (vs : List Value) (ds : List (DataW H)) (ps : List MemPlace), (∀ t ∈ ts, Tryz.prog.readableRec t = true ∧ t < Tryz.prog.types.size) →
    DataW.TrodAll enc Tryz.prog W 0 (fun _ => true) true ts vs ds ps → (∀ x ∈ ps, x.block < W.heap.size) → DataW.TrodAll enc Tryz.prog W' 0 (fun b => decide (b < W.heap.size)) true ts vs ds ps := by
  intro ts
  induction ts with
  | nil =>
    intro vs ds ps _ h _
    obtain ⟨rfl, rfl, rfl⟩ := trodAll_nil h
    exact trodAll_mk0
  | cons t ts ih =>
    intro vs ds ps hts h hlt
    obtain ⟨v, vs', d, ds', p, q, rfl, rfl, rfl, hd, hrest⟩ := trodAll_cons h
    have h1 := Below.trod Tryz.laidOut (hts t (by simp)).1 (hts t (by simp)).2 hd hb (fun x hx => hlt x (by simp [hx]))
    exact trodAll_cons_mk h1 (ih vs' ds' q (fun u hu => hts u (by simp [hu])) hrest (fun x hx => hlt x (by simp [hx])))

theorem trodAll_len {W : World} {base : Nat} {sp : Nat → Bool} {held : Bool} : ∀ {ts : List TypeId} {vs : List Value} {ds : List (DataW H)} {ps : List MemPlace}, DataW.TrodAll enc Tryz.prog W base sp held ts vs ds ps → ds.length = ts.length := by
  intro ts
  induction ts with
  | nil =>
    intro vs ds ps h
    obtain ⟨rfl, rfl, rfl⟩ := trodAll_nil h
    rfl
  | cons t ts ih =>
    intro vs ds ps h
    obtain ⟨v, vs', d, ds', p, q, rfl, rfl, rfl, hd, hrest⟩ := trodAll_cons h
    simp [ih hrest]

/-- A LAW's POST: it answered true, and nothing that was there has turned. -/
theorem frame_post {fn : Func} {s : ChangeSpec} {W W' : World} {args : Array Value} {ds gs : List (DataW H)} {before : List MemPlace}
    (hts : ∀ t ∈ fn.params.toList, Tryz.prog.readableRec t = true ∧ t < Tryz.prog.types.size) (hres : fn.resultTypes = #[4]) (hvars : s.vars = [])
    (hspec : ∀ ds : List (DataW H), ds.length = fn.params.toList.length → (s.fn H ds).results = [.lit (.bool true)] ∧ (s.fn H ds).args = ds ∧ (s.fn H ds).vars = [])
    (hW : DataW.Whole enc Tryz.prog fn.params.toList s.vars false W args.toList ds gs before) (hb : Below W.heap.size W W') :
    s.post enc Tryz.prog fn false true false false W args (.bool true) W' := by
  have hW' := hW
  have hlt := hW.lt
  obtain ⟨p, q, hA, hV, rfl, hfz, hnd⟩ := hW
  rw [hvars] at hV
  obtain ⟨rfl, rfl⟩ : gs = [] ∧ q = [] := by
    cases gs with
    | nil => exact ⟨rfl, hV⟩
    | cons g r => exact absurd hV (by intro h; cases h)
  have hlen : ds.length = fn.params.toList.length := trodAll_len hA
  obtain ⟨e1, e2, e3⟩ := hspec ds hlen
  refine ⟨ds, [], p ++ [], [], p, [], hW', ?_, ?_, ?_, hb.frame _, fun h => by cases h⟩
  · rw [List.append_nil, e1, hres]
    exact trodAll_mk1 (shut_bool Tryz.underlying4 true)
  · rw [List.append_nil, e2]
    exact trodAll_below hb _ _ _ _ hts hA (fun x hx => hlt x (by simp [hx]))
  · rw [List.append_nil, e3, hvars]
    rfl
end frame
end Go.Proofs.YthjdaehiebcoaaaGreatDoor
