/- A part of the proof of InneWays: walks of the functions that it reaches. No condition. -/
import Derived.Test.YtjkocjjcdjjdiaaZtInL
import Derived.Test.YtjkocjjcdjjdiaaZmAuto
namespace Go.Proofs.ZtLe
open Go.RowKit Go.Proofs Go.Proofs.Zm
set_option linter.unusedVariables false
set_option linter.unusedSimpArgs false
set_option maxHeartbeats 20000000
set_option maxRecDepth 100000
attribute [local irreducible] ZWp ZOps ZPure ZPure0 ZVal ZOp SoundF

def rgrowN (n : NodeV) (k : Nat) (p : Bs) (id : Int) : NodeV := ⟨false, insAt n.keys k p, [], insAt n.kids (k + 1) id, n.msgs⟩
/-! ### dumbwaiterref18.Split -/
def rsplitOwn : ZSpec := fun args st K => ∃ (c : CfgV) (n : NodeV), args = [.agg (cfgD c), .agg (nodeD n)] ∧ NodeB n ∧ n.keys.length + 1 = n.kids.length ∧ 1 ≤ c.f ∧ (splits c.f n = false → K (.tup [.agg (nodeD n), .agg zeroN, .v (.slice none 0 0), .v (.bool false)]) st) ∧
  (splits c.f n = true → ∀ o1 c1 f1 o2 c2 f2 st', Sep st st' [(o1, f1), (o2, f2)] → GRow o1 f1 3 (leftOf n).msgs.length c1 (msgR (leftOf n).msgs).flatten → GRow o2 f2 3 (rightOf n).msgs.length c2 (msgR (rightOf n).msgs).flatten →
    K (.tup [.agg [.v (.bool false), .row (rowR (leftOf n).keys) 1 0, .v (.slice none 0 0), .row (intR (leftOf n).kids) 1 0, orow o1 (leftOf n).msgs.length c1],
      .agg [.v (.bool false), .row (rowR (rightOf n).keys) 1 0, .v (.slice none 0 0), .row (intR (rightOf n).kids) 1 0, orow o2 (rightOf n).msgs.length c2], .row (bytesD (pivotOf n)) 1 0, .v (.bool true)]) st')
end Go.Proofs.ZtLe
