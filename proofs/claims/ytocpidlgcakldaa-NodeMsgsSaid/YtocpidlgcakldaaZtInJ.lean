/- A part of the proof of NodeMsgs: walks of the functions that it reaches. No condition. -/
import Derived.Test.YtocpidlgcakldaaZtInI
import Derived.Test.YtocpidlgcakldaaZmAuto
namespace Go.Proofs.ZtLe
open Go.RowKit Go.Proofs Go.Proofs.Zm
set_option linter.unusedVariables false
set_option linter.unusedSimpArgs false
set_option maxHeartbeats 20000000
set_option maxRecDepth 100000
attribute [local irreducible] ZWp ZOps ZPure ZPure0 ZVal ZOp SoundF

/-! ### Configs -/
structure CfgV where
  keyMax : Int
  valMax : Int
  c : Int
  f : Int
  m : Int
  l : Int
  e : Int
  maxKeys : Int
  z : Int
  fill : Nat
def cfgD (c : CfgV) : List D := [.v (.int .i64 c.keyMax), .v (.int .i64 c.valMax), .v (.int .i64 c.c), .v (.int .i64 c.f), .v (.int .i64 c.m), .v (.int .i64 c.l), .v (.int .i64 c.e), .v (.int .i64 c.maxKeys), .v (.int .i64 c.z), .v (.float .f64 c.fill)]

/-! ### inne.Split -/
def zeroN : List D := [.v (.bool false), .v (.slice none 0 0), .v (.slice none 0 0), .v (.slice none 0 0), .v (.slice none 0 0)]
/-- Whether a node is split. -/
def splits (F : Int) (n : NodeV) : Bool := decide (F < (n.kids.length : Int)) && decide (n.keys.length + 1 = n.kids.length) && decide (2 ≤ n.kids.length)
def halfOf (n : NodeV) : Nat := (n.kids.length + 1) / 2
def pivotOf (n : NodeV) : Bs := n.keys.getD (halfOf n - 1) []
def leftOf (n : NodeV) : NodeV := ⟨false, n.keys.take (halfOf n - 1), [], n.kids.take (halfOf n), n.msgs.filter fun m => lt m.2.1 (pivotOf n)⟩
def rightOf (n : NodeV) : NodeV := ⟨false, n.keys.drop (halfOf n), [], n.kids.drop (halfOf n), n.msgs.filter fun m => !lt m.2.1 (pivotOf n)⟩
def splitOwn : ZSpec := fun args st K => ∃ (c : CfgV) (n : NodeV), args = [.agg (cfgD c), .agg (nodeD n)] ∧ NodeB n ∧ (splits c.f n = false → K (.tup [.agg (nodeD n), .agg zeroN, .v (.slice none 0 0), .v (.bool false)]) st) ∧
  (splits c.f n = true → ∀ o1 c1 f1 o2 c2 f2 st', Sep st st' [(o1, f1), (o2, f2)] → GRow o1 f1 3 (leftOf n).msgs.length c1 (msgR (leftOf n).msgs).flatten → GRow o2 f2 3 (rightOf n).msgs.length c2 (msgR (rightOf n).msgs).flatten →
    K (.tup [.agg [.v (.bool false), .row (rowR (leftOf n).keys) 1 0, .v (.slice none 0 0), .row (intR (leftOf n).kids) 1 0, orow o1 (leftOf n).msgs.length c1],
      .agg [.v (.bool false), .row (rowR (rightOf n).keys) 1 0, .v (.slice none 0 0), .row (intR (rightOf n).kids) 1 0, orow o2 (rightOf n).msgs.length c2], .row (bytesD (pivotOf n)) 1 0, .v (.bool true)]) st')
/-- What a split node is. -/
def splitD (F : Int) (n : NodeV) : D := if splits F n = true then .tup [.agg (nodeD (leftOf n)), .agg (nodeD (rightOf n)), .row (bytesD (pivotOf n)) 1 0, .v (.bool true)] else .tup [.agg (nodeD n), .agg (nodeD noNode), .row (bytesD []) 1 0, .v (.bool false)]
end Go.Proofs.ZtLe
