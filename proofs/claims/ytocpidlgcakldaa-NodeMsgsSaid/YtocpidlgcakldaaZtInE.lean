/- A part of the proof of NodeMsgs: walks of the functions that it reaches. No condition. -/
import Derived.Test.YtocpidlgcakldaaZtInD
import Derived.Test.YtocpidlgcakldaaZmP2
import Derived.Test.YtocpidlgcakldaaZmAuto
namespace Go.Proofs.ZtLe
open Go.RowKit Go.Proofs Go.Proofs.Zm
set_option linter.unusedVariables false
set_option linter.unusedSimpArgs false
set_option maxHeartbeats 20000000
set_option maxRecDepth 100000
attribute [local irreducible] ZWp ZOps ZPure ZPure0 ZVal ZOp SoundF

/-! ### slices.Insert -/
def insSpec (k : Nat) : ZSpec := fun args st K => ∃ (o : Option Nat) (n c i idv : Nat) (full cells x : List D), args = [orow o n c, .v (.int .i64 (i : Nat)), .mrow idv 0 1 1] ∧ i ≤ n ∧ n ≤ 2147483648 ∧ x.length = k ∧ OwnA st [(o, full), (some idv, x)] ∧ GRow o full k n c cells ∧
  ∀ o' c' full' st', Sep (bareL st [(o, full), (some idv, x)]) st' [(o', full')] → GRow o' full' k (n + 1) c' (cells.take (i * k) ++ x ++ cells.drop (i * k)) → K (orow o' (n + 1) c') st'
end Go.Proofs.ZtLe
