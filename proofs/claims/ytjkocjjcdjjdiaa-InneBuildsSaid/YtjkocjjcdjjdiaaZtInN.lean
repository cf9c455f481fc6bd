/- A part of the proof of InneBuilds: walks of the functions that it reaches. No condition. -/
import Derived.Test.YtjkocjjcdjjdiaaZtInJ
import Derived.Test.YtjkocjjcdjjdiaaZmP2
import Derived.Test.YtjkocjjcdjjdiaaZmAuto
namespace Go.Proofs.ZtLe
open Go.RowKit Go.Proofs Go.Proofs.Zm
set_option linter.unusedVariables false
set_option linter.unusedSimpArgs false
set_option maxHeartbeats 20000000
set_option maxRecDepth 100000
attribute [local irreducible] ZWp ZOps ZPure ZPure0 ZVal ZOp SoundF

/-! ### floats -/
/-! ### dumbwaiterlaw18.Key -/
def keySpec : ZSpec := fun args st K => ∃ (n most : Int), args = [.v (.int .i64 n), .v (.int .i64 most)] ∧ 0 ≤ most ∧ most ≤ 4611686018427387904 ∧ ∀ (l : Bs) t, l.length ≤ 2 → (l.length : Int) ≤ most → st.T t = false → t ≠ 0 → K (.row (bytesD l) 1 t) (st.setT t true)
end Go.Proofs.ZtLe
