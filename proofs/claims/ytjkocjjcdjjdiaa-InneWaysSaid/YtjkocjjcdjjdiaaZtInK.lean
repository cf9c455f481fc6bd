/- A part of the proof of InneWays: walks of the functions that it reaches. No condition. -/
import Derived.Test.YtjkocjjcdjjdiaaZtInJ
import Derived.Test.YtjkocjjcdjjdiaaZmAuto
namespace Go.Proofs.ZtLe
open Go.RowKit Go.Proofs Go.Proofs.Zm
set_option linter.unusedVariables false
set_option linter.unusedSimpArgs false
set_option maxHeartbeats 20000000
set_option maxRecDepth 100000
attribute [local irreducible] ZWp ZOps ZPure ZPure0 ZVal ZOp SoundF

/-! ### dumbwaiterref18: up, Mine, Heavy -/
def rmineOwn : ZSpec := fun args st K => ∃ (n : NodeV) (k most : Nat), args = [.agg (nodeD n), .v (.int .i64 (k : Nat)), .v (.int .i64 (most : Nat))] ∧ NodeB n ∧ Srt n.keys ∧ ∀ o c f o2 c2 f2 st', Sep st st' [(o, f), (o2, f2)] → GRow o f 3 (mineL n.keys k most n.msgs).1.length c (msgR (mineL n.keys k most n.msgs).1).flatten → GRow o2 f2 3 (mineL n.keys k most n.msgs).2.length c2 (msgR (mineL n.keys k most n.msgs).2).flatten →
  K (.tup [orow o (mineL n.keys k most n.msgs).1.length c, orow o2 (mineL n.keys k most n.msgs).2.length c2]) st'
end Go.Proofs.ZtLe
