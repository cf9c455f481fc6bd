/- A part of the proof of NodeMsgs: walks of the functions that it reaches. No condition. -/
import Derived.Test.YtocpidlgcakldaaZtInC
import Derived.Test.YtocpidlgcakldaaZmP2
import Derived.Test.YtocpidlgcakldaaZmAuto
namespace Go.Proofs.ZtLe
open Go.RowKit Go.Proofs Go.Proofs.Zm
set_option linter.unusedVariables false
set_option linter.unusedSimpArgs false
set_option maxHeartbeats 20000000
set_option maxRecDepth 100000
attribute [local irreducible] ZWp ZOps ZPure ZPure0 ZVal ZOp SoundF

/-! ### mesg.Still, inne.still -/
def MB (m : MsgV) : Prop := m.2.1.length ≤ 2147483648 ∧ m.2.2.length ≤ 2147483648
/-- A node whose lists and texts are small. -/
structure NodeB (n : NodeV) : Prop where
  keys : KB n.keys
  vals : KB n.vals
  kids : n.kids.length ≤ 2147483648
  msgs : n.msgs.length ≤ 2147483648
  msg : ∀ m ∈ n.msgs, MB m
def stillOwn : ZSpec := fun args st K => ∃ n : NodeV, args = [.agg (nodeD n)] ∧ NodeB n ∧ ∀ o1 c1 f1 o2 c2 f2 o3 c3 f3 o4 c4 f4 st', Sep st st' [(o1, f1), (o2, f2), (o3, f3), (o4, f4)] → GRow o1 f1 1 n.keys.length c1 (rowR n.keys).flatten →
  GRow o2 f2 1 n.vals.length c2 (rowR n.vals).flatten → GRow o3 f3 3 n.msgs.length c3 (msgR n.msgs).flatten → GRow o4 f4 1 n.kids.length c4 (intR n.kids).flatten →
  K (.agg [.v (.bool n.leaf), orow o1 n.keys.length c1, orow o2 n.vals.length c2, orow o4 n.kids.length c4, orow o3 n.msgs.length c3]) st'
end Go.Proofs.ZtLe
