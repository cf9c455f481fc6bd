/- A part of the proof of LeafRoom: walks of the functions that it reaches. No condition. -/
import Derived.Test.YtocpidlgcakldaaZtPoT
import Derived.Test.YtocpidlgcakldaaZmAuto
namespace Go.Proofs.ZtLe
open Go.RowKit Go.Proofs Go.Proofs.Zm
set_option linter.unusedVariables false
set_option linter.unusedSimpArgs false
set_option maxHeartbeats 20000000
set_option maxRecDepth 100000
attribute [local irreducible] ZWp ZOps ZPure ZPure0 ZVal ZOp SoundF

/-! ### bytes, as an own block's cells -/
def bcl (l : List UInt8) : List D := l.map fun b => .v (.int .u8 (b.toNat : Int))
@[simp] theorem bcl_length (l : List UInt8) : (bcl l).length = l.length := by simp [bcl]
theorem bcl_append (l m : List UInt8) : bcl (l ++ m) = bcl l ++ bcl m := by simp [bcl]
theorem bcl_flat (l : List UInt8) : (bytesD l).flatten = bcl l := by
  induction l with
  | nil => rfl
  | cons b l ih => simp only [bytesD, bcl, List.map_cons, List.flatten_cons] at ih ⊢; rw [ih]; rfl
/-! ### slices.Grow, of nil -/
def growSpec : ZSpec := fun args st K => ∃ n : Int, args = [.v (.slice none 0 0), .v (.int .i64 n)] ∧ 0 ≤ n ∧ n ≤ 140737488355328 ∧
  (n = 0 → K (.v (.slice none 0 0)) st) ∧ (0 < n → ∀ id c, Fresh st id → n.toNat ≤ c → K (.mrow id 0 0 c) (st.setH id (some (List.replicate n.toNat (.v (.int .u8 0))))))
/-! ### slices.Concat -/
def concatSpec : ZSpec := fun args st K => ∃ (ps : List (List UInt8 × Nat)) (tk : Nat), args = [.row (partsD ps) 1 tk] ∧ ps.length ≤ 140737488355328 ∧ (ps.flatMap Prod.fst).length ≤ 140737488355328 ∧ K (.row (bytesD (ps.flatMap Prod.fst)) 1 0) st

end Go.Proofs.ZtLe
