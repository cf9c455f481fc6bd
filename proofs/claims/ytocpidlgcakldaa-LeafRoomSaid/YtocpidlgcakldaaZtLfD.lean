/- A part of the proof of LeafRoom: walks of the functions that it reaches. No condition. -/
import Derived.Test.YtocpidlgcakldaaZtLfC
import Derived.Test.YtocpidlgcakldaaZtInQ
import Derived.Test.YtocpidlgcakldaaZmAuto
namespace Go.Proofs.ZtLe
open Go.RowKit Go.Proofs Go.Proofs.Zm
set_option linter.unusedVariables false
set_option linter.unusedSimpArgs false
set_option maxHeartbeats 20000000
set_option maxRecDepth 100000
attribute [local irreducible] ZWp ZOps ZPure ZPure0 ZVal ZOp SoundF

/-! ### LeafDeletes -/
def lawCL : ZSpec := fun args st K => ∃ (c : CfgV) (l : List Int) (tl : Nat), args = [.agg (cfgD c), .row (intR l) 1 tl] ∧ l.length ≤ 140737488351232 ∧ K (.v (.bool true)) st
end Go.Proofs.ZtLe
