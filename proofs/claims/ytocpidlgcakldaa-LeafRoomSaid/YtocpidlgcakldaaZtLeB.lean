/- A part of the proof of LeafRoom: walks of the functions that it reaches. No condition. -/
import Derived.Test.YtocpidlgcakldaaZtLeA
import Derived.Test.YtocpidlgcakldaaZmAuto
namespace Go.Proofs.ZtLe
open Go.RowKit Go.Proofs Go.Proofs.Zm
set_option linter.unusedVariables false
set_option linter.unusedSimpArgs false
set_option maxHeartbeats 20000000
set_option maxRecDepth 100000
attribute [local irreducible] ZWp ZOps ZPure ZPure0 ZVal ZOp SoundF

/-! ### le.Zero -/
def zero (l : List UInt8) : Bool := l.all (· == 0)
theorem zero_of (l : List UInt8) (h : ∀ j, j < l.length → l.getD j 0 = 0) : zero l = true := by
  unfold zero
  rw [List.all_eq_true]
  intro x hx
  obtain ⟨j, hj⟩ := List.mem_iff_getElem?.1 hx
  have hlt := (List.getElem?_eq_some_iff.1 hj).1
  have := h j hlt
  rw [List.getD_eq_getElem?_getD, hj] at this
  simpa using this
theorem zero_not (l : List UInt8) (j : Nat) (hj : j < l.length) (h : l.getD j 0 ≠ 0) : zero l = false := by
  unfold zero
  rw [List.all_eq_false]
  rw [getD_in hj] at h
  exact ⟨l[j], List.getElem_mem hj, by simpa using h⟩
theorem byte_ne {b : UInt8} (h : ((b.toNat : Int)) ≠ 0) : b ≠ 0 := fun e => h (by rw [e]; rfl)
def zeroSpec : ZSpec := fun args st K => ∃ (l : List UInt8) (tk : Nat), args = [.row (bytesD l) 1 tk] ∧ l.length ≤ 140737488355328 ∧ K (.v (.bool (zero l))) st

/-! ### le.Pad -/
def padL (l : List UInt8) (most : Int) : Option (List UInt8) := if 0 ≤ most ∧ most ≤ 60000 ∧ (l.length : Int) ≤ most then some (putB l.length 2 ++ l ++ List.replicate (most.toNat - l.length) 0) else none

def padSpec : ZSpec := fun args st K => ∃ (l : List UInt8) (tk : Nat) (most : Int), args = [.row (bytesD l) 1 tk, .v (.int .i64 most)] ∧ l.length ≤ 140737488355328 ∧
  ∀ t, st.T t = false → t ≠ 0 → K (.tup [.row (bytesD ((padL l most).getD [])) 1 t, .v (.bool (padL l most).isSome)]) (st.setT t true)

attribute [irreducible] zero padL
end Go.Proofs.ZtLe
