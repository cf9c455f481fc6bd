/- A part of the proof of NodeMsgs: walks of the functions that it reaches. No condition. -/
import Derived.Test.YtocpidlgcakldaaZtInH
import Derived.Test.YtocpidlgcakldaaZmAuto
namespace Go.Proofs.ZtLe
open Go.RowKit Go.Proofs Go.Proofs.Zm
set_option linter.unusedVariables false
set_option linter.unusedSimpArgs false
set_option maxHeartbeats 20000000
set_option maxRecDepth 100000
attribute [local irreducible] ZWp ZOps ZPure ZPure0 ZVal ZOp SoundF

/-! ### inne.Grow -/
def insAt {α : Type} (l : List α) (k : Nat) (x : α) : List α := l.take k ++ [x] ++ l.drop k
def growN (n : NodeV) (k : Nat) (p : Bs) (id : Int) : NodeV := { n with keys := insAt n.keys k p, kids := insAt n.kids (k + 1) id }
theorem flat_take1 {α : Type} (f : α → D) (l : List α) (i : Nat) : ((l.map fun a => [f a]).flatten).take (i * 1) = ((l.take i).map fun a => [f a]).flatten := by
  rw [Nat.mul_one]
  simp only [← List.flatMap_def]
  rw [show (fun a => [f a]) = (fun a => List.singleton (f a)) from rfl]
  simp [List.flatMap_singleton', List.singleton, List.map_take, ← List.map_eq_flatMap]
theorem flat_drop1 {α : Type} (f : α → D) (l : List α) (i : Nat) : ((l.map fun a => [f a]).flatten).drop (i * 1) = ((l.drop i).map fun a => [f a]).flatten := by
  rw [Nat.mul_one]
  simp only [← List.flatMap_def]
  simp [List.map_drop, ← List.map_eq_flatMap]
def growOwn : ZSpec := fun args st K => ∃ (n : NodeV) (k tk : Nat) (p : Bs) (id : Int), args = [.agg (nodeD n), .v (.int .i64 (k : Nat)), .row (bytesD p) 1 tk, .v (.int .i64 id)] ∧ NodeB n ∧ k ≤ n.keys.length ∧ k + 1 ≤ n.kids.length ∧ p.length ≤ 2147483648 ∧
  ∀ o1 c1 f1 o2 c2 f2 o3 c3 f3 o4 c4 f4 st', Sep st st' [(o1, f1), (o2, f2), (o3, f3), (o4, f4)] → GRow o1 f1 1 (n.keys.length + 1) c1 (rowR (insAt n.keys k p)).flatten →
  GRow o2 f2 1 n.vals.length c2 (rowR n.vals).flatten → GRow o3 f3 3 n.msgs.length c3 (msgR n.msgs).flatten → GRow o4 f4 1 (n.kids.length + 1) c4 (intR (insAt n.kids (k + 1) id)).flatten →
  K (.agg [.v (.bool n.leaf), orow o1 (n.keys.length + 1) c1, orow o2 n.vals.length c2, orow o4 (n.kids.length + 1) c4, orow o3 n.msgs.length c3]) st'
end Go.Proofs.ZtLe
