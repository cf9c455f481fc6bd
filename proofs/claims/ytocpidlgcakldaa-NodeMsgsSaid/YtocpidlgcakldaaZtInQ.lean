/- A part of the proof of NodeMsgs: walks of the functions that it reaches. No condition. -/
import Derived.Test.YtocpidlgcakldaaZtInP
import Derived.Test.YtocpidlgcakldaaZmAuto
namespace Go.Proofs.ZtLe
open Go.RowKit Go.Proofs Go.Proofs.Zm
set_option linter.unusedVariables false
set_option linter.unusedSimpArgs false
set_option maxHeartbeats 20000000
set_option maxRecDepth 100000
attribute [local irreducible] ZWp ZOps ZPure ZPure0 ZVal ZOp SoundF

/-! ### dumbwaiterlaw18.Node, of an odd number of numbers -/
def kidsN (N j : Nat) : List Int := (List.range j).map fun (i : Nat) => (i : Int) * 7 + N + 1
theorem kidsN_succ (N j : Nat) : kidsN N (j + 1) = kidsN N j ++ [(j : Int) * 7 + N + 1] := by unfold kidsN; rw [List.range_succ, List.map_append]; rfl
theorem kidsN_length (N j : Nat) : (kidsN N j).length = j := by simp [kidsN]
structure InnerV (c : CfgV) (N : Nat) (n : NodeV) : Prop where
  leaf : n.leaf = false
  srt : Srt n.keys
  klen : (n.keys.length : Int) ≤ c.f - 1
  kb : ∀ k ∈ n.keys, k.length ≤ 3 ∧ (k.length : Int) ≤ c.keyMax
  vals : n.vals = []
  kids : n.kids = kidsN N (n.keys.length + 1)
  mlen : (n.msgs.length : Int) ≤ c.m
  msg : ∀ m ∈ n.msgs, m.1 ≠ 0 ∧ ∃ v : Bs, v.length = 2 ∧ MsgS c v m
structure NodeC (c : CfgV) : Prop where
  key : 0 ≤ c.keyMax ∧ c.keyMax ≤ 1000000
  val : 0 ≤ c.valMax ∧ c.valMax ≤ 1000000
  f : 1 ≤ c.f ∧ c.f ≤ 1000000
  m : 0 ≤ c.m ∧ c.m ≤ 1000000
def nodeSpec : ZSpec := fun args st K => ∃ (c : CfgV) (l : List Int) (tl : Nat), args = [.agg (cfgD c), .row (intR l) 1 tl] ∧ l.length % 2 = 1 ∧ l.length ≤ 140737488355328 ∧ NodeC c ∧
  ∀ n, InnerV c l.length n → ∀ o4 c4 f4 o3 c3 f3 st', Sep st st' [(o3, f3), (o4, f4)] → GRow o4 f4 1 n.kids.length c4 (intR n.kids).flatten → GRow o3 f3 3 n.msgs.length c3 (msgR n.msgs).flatten →
    K (.agg [.v (.bool false), .row (rowR n.keys) 1 0, .v (.slice none 0 0), orow o4 n.kids.length c4, orow o3 n.msgs.length c3]) st'
end Go.Proofs.ZtLe
