/- A part of the proof of NodeMsgs: walks of the functions that it reaches. No condition. -/
import Derived.Test.YtocpidlgcakldaaZtInQ
import Derived.Test.YtocpidlgcakldaaZmAuto
namespace Go.Proofs.ZtLe
open Go.RowKit Go.Proofs Go.Proofs.Zm
set_option linter.unusedVariables false
set_option linter.unusedSimpArgs false
set_option maxHeartbeats 20000000
set_option maxRecDepth 100000
attribute [local irreducible] ZWp ZOps ZPure ZPure0 ZVal ZOp SoundF

/-! ### dumbwaiterlaw22.Inner -/
/-- What is told of such a node. -/
structure InnerN (c : CfgV) (n : NodeV) : Prop where
  leaf : n.leaf = false
  srt : Srt n.keys
  klen : (n.keys.length : Int) ≤ c.f + 1
  kb : ∀ k ∈ n.keys, k.length ≤ 2
  vals : n.vals = []
  kids : n.kids.length = n.keys.length + 1
  mlen : (n.msgs.length : Int) ≤ c.m + c.c
  msg : ∀ m ∈ n.msgs, m.1 ≠ 0 ∧ m.2.1.length ≤ 2 ∧ m.2.2.length ≤ 8
end Go.Proofs.ZtLe
