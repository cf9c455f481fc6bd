/- A part of the proof of MesgApart: walks of the functions that it reaches. No condition. -/
import Derived.Test.YtakicgmmpjmniaaZtMeQ
import Derived.Test.YtakicgmmpjmniaaZmAuto
namespace Go.Proofs.ZtLe
open Go.RowKit Go.Proofs Go.Proofs.Zm
set_option linter.unusedVariables false
set_option linter.unusedSimpArgs false
set_option maxHeartbeats 20000000
set_option maxRecDepth 100000
attribute [local irreducible] ZWp ZOps ZPure ZPure0 ZVal ZOp SoundF

/-! ### MesgSteps -/
theorem applyL_pb {p : List PairV} {l : List MsgV} (hp : ∀ q ∈ p, PB q) (hm : ∀ m ∈ l, MB m) : ∀ q ∈ applyL p l, PB q := by
  induction l generalizing p with
  | nil => exact hp
  | cons m l ih => exact ih (oneL_pb hp (hm m (by simp))) fun q hq => hm q (by simp [hq])
def stepsSpecM : ZSpec := fun args st K => ∃ (c : CfgV) (l m : List Int) (at_ key : Int) (tl tm : Nat), args = [.agg (cfgD c), .row (intR l) 1 tl, .row (intR m) 1 tm, .v (.int .i64 at_), .v (.int .i64 key)] ∧ l.length ≤ 140737488351232 ∧ m.length ≤ 140737488351232 ∧ K (.v (.bool true)) st
end Go.Proofs.ZtLe
