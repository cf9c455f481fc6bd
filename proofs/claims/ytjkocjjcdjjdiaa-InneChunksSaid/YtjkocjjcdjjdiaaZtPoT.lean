/- A part of the proof of InneChunks: walks of the functions that it reaches. No condition. -/
import Derived.Test.YtjkocjjcdjjdiaaZtLeD
import Derived.Test.YtjkocjjcdjjdiaaZmP1
import Derived.Test.YtjkocjjcdjjdiaaZmAuto
namespace Go.Proofs.ZtLe
open Go.RowKit Go.Proofs Go.Proofs.Zm
set_option linter.unusedVariables false
set_option linter.unusedSimpArgs false
set_option maxHeartbeats 20000000
set_option maxRecDepth 100000
attribute [local irreducible] ZWp ZOps ZPure ZPure0 ZVal ZOp SoundF
theorem el_Int : ElemOk Try.prog 3 1 8 [.v (.int .i64 0)] := el_of rfl
end Go.Proofs.ZtLe
