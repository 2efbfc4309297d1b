/- Plain functions: what the reference of the tables (liaisonref10) computes. No program in sight. -/
import GoSem.Claim
namespace Go.Proofs.YtkidljiffeonjaaDoor

def rFailing (s : Int) : Bool := decide (8 ≤ s ∧ s ≤ 11)
def rHas (p d s : Int) : Bool :=
  decide ((s = 4 ∨ s = 10) ∧ p = 2 ∨ s = 3 ∧ p = 2 ∧ d = 1 ∨ s ≠ 4 ∧ s ≠ 10 ∧ s ≠ 3 ∧ 1 ≤ s ∧ s ≤ 14)
def rWaits (d s : Int) : Int :=
  if d = 1 then (if s = 2 ∨ s = 3 then 10 else if s = 4 then 2 else if s = 6 then 9 else if s = 7 then 11 else 0)
  else if s = 5 then 3 else if 8 ≤ s ∧ s ≤ 11 then 4 else if s = 12 then 5 else if s = 13 then 1 else 0
def rTakes (p d k : Int) : Bool :=
  decide (d = 1 ∧ (k = 1 ∨ 3 ≤ k ∧ k ≤ 8) ∨ d ≠ 1 ∧ (k = 2 ∧ p = 2 ∨ 9 ≤ k ∧ k ≤ 14))
def rSends (p d k : Int) : Bool :=
  decide (d = 2 ∧ (k = 1 ∨ 3 ≤ k ∧ k ≤ 8) ∨ d ≠ 2 ∧ (k = 2 ∧ p = 2 ∨ 9 ≤ k ∧ k ≤ 14))
/-- the coordinator's cell -/
def rCoord (p k s : Int) : Int × Int × Int :=
  if k = 1 then (if s = 1 ∨ s = 2 ∨ s = 3 ∨ s = 4 then (1, 13, 0) else if s = 13 then (2, 0, 0) else if s = 14 then (3, 0, 13) else (4, 0, 0))
  else if k = 3 then
    (if s = 1 ∨ s = 2 then (if p = 1 then (1, 5, 0) else (4, 0, 0)) else if s = 3 ∨ s = 4 then (1, 5, 0) else if s = 5 ∨ s = 11 ∨ s = 14 then (2, 0, 0)
     else if s = 6 then (3, 0, 9) else if s = 7 then (3, 0, 11) else (4, 0, 0))
  else if k = 4 then
    (if s = 1 then (1, 8, 0) else if s = 2 ∨ s = 3 then (1, 9, 0) else if s = 4 then (1, 10, 0) else if s = 7 then (1, 11, 0)
     else if 8 ≤ s ∧ s ≤ 11 then (2, 0, 0) else if s = 14 then (3, 0, 12) else (4, 0, 0))
  else if k = 5 then (if s = 1 ∨ s = 2 ∨ s = 3 ∨ s = 4 then (1, 12, 0) else if s = 12 then (2, 0, 0) else if s = 14 then (3, 0, 14) else (4, 0, 0))
  else if k = 6 ∨ k = 7 ∨ k = 8 then
    (if s = 14 then (2, 0, 0) else if k = 6 ∧ (s = 2 ∨ s = 3) ∨ k = 7 ∧ s = 6 ∨ k = 8 ∧ s = 7 then (1, 14, 0) else (4, 0, 0))
  else (4, 0, 0)
/-- the participant's cell -/
def rPart (k s : Int) : Int × Int × Int :=
  if k = 2 then (if s = 1 then (1, 4, 0) else if rWaits 2 s ≠ 0 then (3, 0, rWaits 2 s) else (2, 0, 0))
  else if k = 10 then (if s = 1 ∨ s = 4 then (1, 2, 0) else if rWaits 2 s ≠ 0 then (3, 0, rWaits 2 s) else if s = 14 then (3, 0, 6) else (2, 0, 0))
  else if k = 9 then (if s = 5 then (1, 6, 0) else if s = 6 then (2, 0, 0) else if s = 14 then (3, 0, 7) else (4, 0, 0))
  else if k = 11 then (if s = 5 then (1, 7, 0) else if s = 7 then (2, 0, 0) else if s = 11 then (3, 0, 4) else if s = 14 then (3, 0, 8) else (4, 0, 0))
  else if k = 12 ∨ k = 13 ∨ k = 14 then
    (if s = 14 then (2, 0, 0) else if k = 12 ∧ 8 ≤ s ∧ s ≤ 11 ∨ k = 13 ∧ s = 13 ∨ k = 14 ∧ s = 12 then (1, 14, 0) else (4, 0, 0))
  else (4, 0, 0)
def rSide (p d : Int) : Bool := decide (1 ≤ p ∧ p ≤ 2 ∧ 1 ≤ d ∧ d ≤ 2)
/-- the cell, and the error's number -/
def rLook (p d k s : Int) : (Int × Int × Int) × Int :=
  if rSide p d = false then ((0, 0, 0), 14)
  else if rTakes p d k = false then ((0, 0, 0), 4)
  else if rHas p d s = false then ((0, 0, 0), 1)
  else if d = 1 then (rCoord p k s, 0) else (rPart k s, 0)
/-- whither a side goes by itself -/
def rGoes (p k s : Int) : Int :=
  if k = 2 then (if s = 1 then 4 else 0)
  else if k = 10 then (if s = 1 then 2 else if s = 4 then 3 else 0)
  else if k = 9 then (if s = 5 then 6 else 0)
  else if k = 11 then (if s = 5 then 7 else 0)
  else if k = 12 then (if 8 ≤ s ∧ s ≤ 11 then 14 else 0)
  else if k = 13 then (if s = 13 then 14 else 0)
  else if k = 14 then (if s = 12 then 14 else 0)
  else if k = 1 then (if s = 1 ∨ s = 4 then 13 else 0)
  else if k = 5 then (if s = 1 ∨ s = 4 then 12 else 0)
  else if k = 3 then (if p = 1 ∧ s = 1 ∨ p = 2 ∧ s = 4 then 5 else 0)
  else if k = 4 then (if s = 1 then 8 else if s = 2 then 9 else if s = 4 then 10 else if s = 7 then 11 else 0)
  else if k = 6 then (if s = 2 then 14 else 0)
  else if k = 7 then (if s = 6 then 14 else 0)
  else if k = 8 then (if s = 7 then 14 else 0)
  else 0
def rStep (p d k s : Int) : Int × Int :=
  if rSide p d = false then (0, 14)
  else if rSends p d k = false then (0, 4)
  else if rHas p d s = false then (0, 1)
  else if rGoes p k s = 0 then (0, 9) else (rGoes p k s, 0)

end Go.Proofs.YtkidljiffeonjaaDoor
