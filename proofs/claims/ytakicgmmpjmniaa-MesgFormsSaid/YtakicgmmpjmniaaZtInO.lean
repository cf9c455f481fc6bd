/- A part of the proof of MesgForms: walks of the functions that it reaches. No condition. -/
import Derived.Test.YtakicgmmpjmniaaZtInN
import Derived.Test.YtakicgmmpjmniaaZmAuto
namespace Go.Proofs.ZtLe
open Go.RowKit Go.Proofs Go.Proofs.Zm
set_option linter.unusedVariables false
set_option linter.unusedSimpArgs false
set_option maxHeartbeats 20000000
set_option maxRecDepth 100000
attribute [local irreducible] ZWp ZOps ZPure ZPure0 ZVal ZOp SoundF

/-! ### dumbwaiterlaw18.put -/
def putIn (k : Bs) (s : Bool × List Bs) (x : Bs) : Bool × List Bs := (s.1 || lt k x || k == x, (if !s.1 && lt k x then s.2 ++ [k] else s.2) ++ [x])
def putTo (k : Bs) (l : List Bs) : Bool × List Bs := l.foldl (putIn k) (false, [])
def putL (l : List Bs) (k : Bs) : List Bs := if (putTo k l).1 then (putTo k l).2 else (putTo k l).2 ++ [k]
theorem putTo_snoc (k : Bs) (l : List Bs) (x : Bs) : putTo k (l ++ [x]) = putIn k (putTo k l) x := by unfold putTo; rw [List.foldl_append]; rfl
/-! ### dumbwaiterlaw18.Small -/
structure SmallC (c : CfgV) : Prop where
  hkey : 1 ≤ c.keyMax ∧ c.keyMax ≤ 2
  hval : 8 ≤ c.valMax ∧ c.valMax ≤ 9
  hc : 1 ≤ c.c ∧ c.c ≤ 2
  hf : 3 ≤ c.f ∧ c.f ≤ 4
  hm : c.f * c.c ≤ c.m ∧ c.m ≤ c.f * c.c + 1
  hl : c.c + 1 ≤ c.l ∧ c.l ≤ c.c + 2
  he : 1 ≤ c.e ∧ c.e ≤ 4
  hmaxKeys : 1 ≤ c.maxKeys ∧ c.maxKeys ≤ 8
  hz : 1 ≤ c.z ∧ c.z ≤ 2
end Go.Proofs.ZtLe
