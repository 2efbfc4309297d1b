/- The iterators of package model: kinds, nexts. -/
import Derived.Test.YtkidljiffeonjaaDoorRows
import Derived.WalkKit
import Derived.WalkSpells
import Derived.WalkLawsBesides
import Derived.BigQuiet
import Derived.Deep.QuietTactic
import Derived.StillTailTactics
import Derived.Handy
import Derived.Lib.Hide
import Derived.Test.YtkidljiffeonjaaDoorRange
import Derived.Test.YtkidljiffeonjaaDoorMovD
import Derived.Test.YtkidljiffeonjaaDoorModP
import Derived.OwnWalkIn
import Derived.TacticsInMore
import Derived.LoopNIn
import Derived.LoopIn
import Derived.Shelf.RegionOpen
set_option linter.unusedSimpArgs false
set_option linter.unusedVariables false
namespace Go.Proofs.YtkidljiffeonjaaDoor
open Go.RowKit Go.Shelf
attribute [local go_sem] Oper.semAt_some

theorem kinds_in (n : Nat) (w : World) : CallsIn Fence.wide n Tryd.prog 104 #[] w fun e w' => e = .returned (.func (.func 130) #[] #[]) ∧ w = w' := by
  refine callsIn_wide.2 ?_
  go_enter Tryd.func104, Tryd.ntmps104
  go_wp2
  go_ret
  exact ⟨rfl, rfl⟩
/-- a kind from 1 to 14 -/
abbrev K14 := { k : Int // 1 ≤ k ∧ k ≤ 14 }
set_option maxHeartbeats 1000000 in
theorem kinds_seq (n : Nat) (hn : 1 ≤ n) (Kp : World → World → Prop) (w : World) : SeqStopsK Fence.wide n Tryd.prog 130 #[] (fun k : K14 => #[Value.int .i64 k.1]) Kp (fun xs => xs.map (·.1) = kupto 14) (fun _ => True) 14 w := by
  intro l J Jx W hW hJ hJx hY h0
  refine callsIn_of_wp Tryd.func130 rfl trivial ?_ rfl
  simp only [Tryd.ntmps130, List.size_toArray, List.length_cons, List.length_nil, Nat.reduceAdd, Nat.reduceSub, Array.replicate_succ, Array.replicate_zero, List.push_toArray, List.append_toArray, List.nil_append, List.cons_append]
  gi_wp2
  gi_loopw [2] (fun i wr => ∃ k : Nat, k ≤ 14 ∧ i = .int .i64 ((k : Int) + 1) ∧ ∃ l : List K14, l.map (·.1) = kupto k ∧ J l wr) (fun i _ => 15 - (intOf i).toNat)
  case atStart => exact ⟨0, by omega, rfl, [], rfl, h0⟩
  case round =>
    obtain ⟨k, hk, rfl, ks, hks, hj⟩ := hrel
    have HK := Lib.hid hks
    clear hks
    by_cases hlt : k < 14
    · obtain ⟨fn, tmps, assign, body, hy, hR⟩ := hY ks ⟨(k : Int) + 1, by omega⟩ wr hj (by have h := congrArg List.length HK.out; rw [List.length_map, kupto_length] at h; omega)
      dsimp only at hy
      gi_wp2
      refine hR.mono ?_
      rintro e W3 (⟨rfl, hJ3, _⟩ | ⟨rfl, hJx3⟩)
      · gi_wp2
        go_roundw
        case rel => exact ⟨k + 1, by omega, by go_num, _, by rw [List.map_append, HK.out, kupto_succ]; rfl, hJ3⟩
        case measure => simp [intOf]; omega
      · gi_wp2
        go_end0
        exact ⟨⟨_, rfl⟩, .inr ⟨_, trivial, hJx3⟩⟩
    · obtain rfl : k = 14 := by omega
      gi_wp2
      refine ⟨fun _ h => (by cases h), ?_⟩
      gi_wp2
      go_end0
      exact ⟨⟨_, rfl⟩, .inl ⟨_, HK.out, hj⟩⟩
theorem step_sub {s x : MSeat} {k : Int} (hk : 1 ≤ k ∧ k ≤ 14) (h : x ∈ mstep s k) : x ∈ mflat s (kupto 14) := by
  unfold mflat
  exact List.mem_flatMap.2 ⟨k, mem_kupto.2 hk, h⟩
theorem flat_sub {s x : MSeat} (l : List K14) (h : x ∈ mflat s (l.map (·.1))) : x ∈ mflat s (kupto 14) := by
  unfold mflat at h
  obtain ⟨k, hk, hx⟩ := List.mem_flatMap.1 h
  obtain ⟨y, _, rfl⟩ := List.mem_map.1 hk
  exact step_sub y.2 hx
theorem nexts_in (n : Nat) (s : MSeat) (w : World) : CallsIn Fence.wide n Tryd.prog 67 #[seatV s] w fun e w' => e = .returned (.func (.func 103) #[] #[.pointer (some ⟨w.heap.size, 0, none⟩)]) ∧ w' = w.alloc (.cells #[.int .i64 s.p, .int .i64 s.d, .int .i64 s.s, .int .i64 s.h] 52) := by
  refine callsIn_wide.2 ?_
  obtain ⟨p, d, s, h⟩ := s
  go_enter Tryd.func67, Tryd.ntmps67
  go_wp2
  go_ret
  exact ⟨rfl, rfl⟩
end Go.Proofs.YtkidljiffeonjaaDoor
