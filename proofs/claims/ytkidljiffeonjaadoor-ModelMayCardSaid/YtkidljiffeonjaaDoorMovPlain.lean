/- Plain functions: what package moves computes at one seat. No program in sight. -/
import Derived.Test.YtkidljiffeonjaaDoorTabG
set_option linter.unusedVariables false
namespace Go.Proofs.YtkidljiffeonjaaDoor

/-- a seat: its protocol, side, state, and how it ended -/
structure MSeat where
  p : Int
  d : Int
  s : Int
  h : Int
  deriving DecidableEq
/-- what comes of a move -/
structure Eff where
  seat : MSeat
  send : Int
  fault : Int
  work : Int
  ch : Bool
  deriving DecidableEq
def seat0 : MSeat := ⟨0, 0, 0, 0⟩
def eff0 : Eff := ⟨seat0, 0, 0, 0, false⟩
def mRight (x : MSeat) : Bool := decide ((rWait x.p x.d x.s).2 = 0) && (if x.s = 14 then [1, 4, 5, 6, 7, 8].contains x.h else decide (x.h = 0))
def mWork (x : MSeat) : Int := if mRight x = false ∨ x.d ≠ 2 then 0 else if x.s = 4 then 2 else if x.s = 6 then 9 else if x.s = 2 then 10 else if x.s = 7 then 11 else 0
def mWaits (x : MSeat) : Int := if mRight x = false then 0 else (rWait x.p x.d x.s).1
def mMeant (k : Int) : Int := if k = 12 then 4 else if k = 13 then 1 else if k = 14 then 5 else k
def mDue (s : Int) : Int := if s = 13 then 13 else if s = 12 then 14 else if s = 8 ∨ s = 9 ∨ s = 10 ∨ s = 11 then 12 else 0
def mWent (x : MSeat) (s k : Int) : MSeat := ⟨x.p, x.d, s, if s = 14 then mMeant k else x.h⟩
def mChanged (x : MSeat) (send : Int) : Eff := ⟨x, send, 0, mWork x, true⟩
def mGone (x : MSeat) (k s : Int) : Eff := if x.d = 1 ∧ mDue s ≠ 0 then mChanged (mWent x 14 (mDue s)) (mDue s) else mChanged (mWent x s k) 0
def mTell (x : MSeat) (k : Int) : Eff × Int :=
  if mRight x = false then (eff0, 4)
  else if (rLook x.p x.d k x.s).2 ≠ 0 then (⟨x, 0, 2, 0, false⟩, 0)
  else if (rLook x.p x.d k x.s).1.1 = 4 then (⟨x, 0, 1, 0, false⟩, 0)
  else if (rLook x.p x.d k x.s).1.1 = 3 then (⟨x, (rLook x.p x.d k x.s).1.2.2, 0, 0, false⟩, 0)
  else if (rLook x.p x.d k x.s).1.1 = 1 then (mGone x k (rLook x.p x.d k x.s).1.2.1, 0)
  else (⟨x, 0, 0, 0, false⟩, 0)
def mDo (x : MSeat) (k : Int) : Eff × Int :=
  if mRight x = false then (eff0, 4)
  else if (rStep x.p x.d k x.s).2 ≠ 0 then (eff0, (rStep x.p x.d k x.s).2)
  else (mChanged (mWent x (rStep x.p x.d k x.s).1 k) k, 0)
end Go.Proofs.YtkidljiffeonjaaDoor
