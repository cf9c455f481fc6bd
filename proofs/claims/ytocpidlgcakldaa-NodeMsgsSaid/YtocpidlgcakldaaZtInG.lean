/- A part of the proof of NodeMsgs: walks of the functions that it reaches. No condition. -/
import Derived.Test.YtocpidlgcakldaaZtInF
import Derived.Test.YtocpidlgcakldaaZmAuto
namespace Go.Proofs.ZtLe
open Go.RowKit Go.Proofs Go.Proofs.Zm
set_option linter.unusedVariables false
set_option linter.unusedSimpArgs false
set_option maxHeartbeats 20000000
set_option maxRecDepth 100000
attribute [local irreducible] ZWp ZOps ZPure ZPure0 ZVal ZOp SoundF

/-! ### slices.Delete of pairs -/
def delSpec (k : Nat) : ZSpec := fun args st K => ∃ (o : Option Nat) (n c i j : Nat) (full cells : List D), args = [orow o n c, .v (.int .i64 (i : Nat)), .v (.int .i64 (j : Nat))] ∧ i < j ∧ j ≤ n ∧ n ≤ 2147483648 ∧ OwnA st [(o, full)] ∧ GRow o full k n c cells ∧
  ∀ o' c' full' st', Sep (bareL st [(o, full)]) st' [(o', full')] → GRow o' full' k (i + (n - j)) c' (cells.take (i * k) ++ cells.drop (j * k)) → K (orow o' (i + (n - j)) c') st'
end Go.Proofs.ZtLe
