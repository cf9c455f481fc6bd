/- A part of the proof of LeafBuilds: walks of the functions that it reaches. No condition. -/
import Derived.Test.YtocpidlgcakldaaZtInO
import Derived.Test.YtocpidlgcakldaaZmAuto
namespace Go.Proofs.ZtLe
open Go.RowKit Go.Proofs Go.Proofs.Zm
set_option linter.unusedVariables false
set_option linter.unusedSimpArgs false
set_option maxHeartbeats 20000000
set_option maxRecDepth 100000
attribute [local irreducible] ZWp ZOps ZPure ZPure0 ZVal ZOp SoundF

/-! ### dumbwaiterlaw18.Message -/
structure MsgS (c : CfgV) (v : Bs) (m : MsgV) : Prop where
  kind : 0 ≤ m.1 ∧ m.1 ≤ 3
  key : m.2.1.length ≤ 2 ∧ (m.2.1.length : Int) ≤ c.keyMax
  none : m.1 = 0 → m.2.1 = [] ∧ m.2.2 = []
  put : m.1 = 1 → (m.2.2.length : Int) ≤ c.valMax ∨ m.2.2.length = 8
  del : m.1 = 2 → m.2.2 = []
  add : m.1 = 3 → m.2.2.length = 8
  val : m.2.2.length ≤ v.length ∨ m.2.2.length = 8 ∨ m.2.2.length = 0
def msgSpec : ZSpec := fun args st K => ∃ (c : CfgV) (n : Int) (v : Bs) (tv : Nat), args = [.agg (cfgD c), .v (.int .i64 n), .row (bytesD v) 1 tv] ∧ 0 ≤ c.keyMax ∧ c.keyMax ≤ 4611686018427387904 ∧ 0 ≤ c.valMax ∧ c.valMax ≤ 4611686018427387904 ∧ v.length ≤ 2147483648 ∧
  ∀ d m, MsgS c v m → DLe d (.agg (msgD m)) → K d st
end Go.Proofs.ZtLe
