/- A part of the proof of LeafRoom: walks of the functions that it reaches. No condition. -/
import Derived.Test.YtocpidlgcakldaaZtLeB
import Derived.Test.YtocpidlgcakldaaZmAuto
namespace Go.Proofs.ZtLe
open Go.RowKit Go.Proofs Go.Proofs.Zm
set_option linter.unusedVariables false
set_option linter.unusedSimpArgs false
set_option maxHeartbeats 20000000
set_option maxRecDepth 100000
attribute [local irreducible] ZWp ZOps ZPure ZPure0 ZVal ZOp SoundF

/-! ### le.Unpad -/
def unpadL (l : List UInt8) (most : Int) : Option (List UInt8) :=
  if 0 ≤ most ∧ most ≤ 60000 ∧ (l.length : Int) = most + 2 then
    (if get (l.take 2) ≤ most ∧ zero (l.drop (2 + (get (l.take 2)).toNat)) = true then some ((l.take (2 + (get (l.take 2)).toNat)).drop 2) else none) else none

def unpadSpec : ZSpec := fun args st K => ∃ (l : List UInt8) (tk : Nat) (most : Int), args = [.row (bytesD l) 1 tk, .v (.int .i64 most)] ∧ l.length ≤ 140737488355328 ∧
  ∀ t, st.T t = false → t ≠ 0 → K (.tup [.row (bytesD ((unpadL l most).getD [])) 1 t, .v (.bool (unpadL l most).isSome)]) (st.setT t true)

/-! ### le.Sum -/
def step (h : Int) (b : UInt8) : Int := IntKind.u64.wrap (IntKind.u64.wrap ((BitVec.ofInt IntKind.u64.bits h ^^^ BitVec.ofInt IntKind.u64.bits (b.toNat : Int)).toNat : Int) * 1099511628211)
def sumL (l : List UInt8) : Int := l.foldl step 14695981039346656037
theorem take_succ_byte (l : List UInt8) (i : Nat) (h : i < l.length) : l.take (i + 1) = l.take i ++ [l.getD i 0] := by
  rw [List.take_succ_eq_append_getElem h, getD_in h]
/-- Parts. -/
def partsD (ps : List (List UInt8 × Nat)) : List (List D) := ps.map fun p => [.row (bytesD p.1) 1 p.2]
@[simp] theorem partsD_length (ps) : (partsD ps).length = ps.length := by simp [partsD]
theorem partsD_getD (ps : List (List UInt8 × Nat)) (i : Nat) (h : i < ps.length) : (partsD ps).getD i [] = [.row (bytesD (ps.getD i ([], 0)).1) 1 (ps.getD i ([], 0)).2] := by
  rw [getD_in (by simpa using h), getD_in h]; simp [partsD]

end Go.Proofs.ZtLe
