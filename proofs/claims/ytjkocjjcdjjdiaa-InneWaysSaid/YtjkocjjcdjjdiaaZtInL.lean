/- A part of the proof of InneWays: walks of the functions that it reaches. No condition. -/
import Derived.Test.YtjkocjjcdjjdiaaZtInK
import Derived.Test.YtjkocjjcdjjdiaaZmAuto
namespace Go.Proofs.ZtLe
open Go.RowKit Go.Proofs Go.Proofs.Zm
set_option linter.unusedVariables false
set_option linter.unusedSimpArgs false
set_option maxHeartbeats 20000000
set_option maxRecDepth 100000
attribute [local irreducible] ZWp ZOps ZPure ZPure0 ZVal ZOp SoundF

/-! ### dumbwaiterref18.Grow -/
def kidsTo (l : List Int) (k : Nat) (id : Int) (i : Nat) : List Int := if i ≤ k then l.take i else insAt (l.take i) (k + 1) id
theorem kidsTo_zero (l : List Int) (k : Nat) (id : Int) : kidsTo l k id 0 = [] := by unfold kidsTo; rw [if_pos (Nat.zero_le _)]; rfl
def rgrowOwn : ZSpec := fun args st K => ∃ (n : NodeV) (k tk : Nat) (p : Bs) (id : Int), args = [.agg (nodeD n), .v (.int .i64 (k : Nat)), .row (bytesD p) 1 tk, .v (.int .i64 id)] ∧ NodeB n ∧ k ≤ n.keys.length ∧ k + 1 ≤ n.kids.length ∧
  ∀ o1 c1 f1 o4 c4 f4 st', Sep st st' [(o1, f1), (o4, f4)] → GRow o1 f1 1 (insAt n.keys k p).length c1 (rowR (insAt n.keys k p)).flatten → GRow o4 f4 1 (insAt n.kids (k + 1) id).length c4 (intR (insAt n.kids (k + 1) id)).flatten →
  K (.agg [.v (.bool false), orow o1 (insAt n.keys k p).length c1, .v (.slice none 0 0), orow o4 (insAt n.kids (k + 1) id).length c4, .row (msgR n.msgs) 3 0]) st'
end Go.Proofs.ZtLe
