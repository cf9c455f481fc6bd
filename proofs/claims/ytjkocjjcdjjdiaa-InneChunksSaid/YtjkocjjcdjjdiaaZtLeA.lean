/- A part of the proof of InneChunks: walks of the functions that it reaches. No condition. -/
import Derived.Test.YtjkocjjcdjjdiaaZtTb
import Derived.Test.YtjkocjjcdjjdiaaZmAuto
namespace Go.Proofs.ZtLe
open Go.RowKit Go.Proofs Go.Proofs.Zm
set_option linter.unusedVariables false
set_option linter.unusedSimpArgs false
set_option maxHeartbeats 20000000
set_option maxRecDepth 100000
attribute [local irreducible] ZWp ZOps ZPure ZPure0 ZVal ZOp SoundF

/-! ### plain -/
/-- The lowest bytes of a number, the least first. -/
def put (n : Int) : Nat → List UInt8
  | 0 => []
  | k + 1 => put n k ++ [UInt8.ofNat (n / 256 ^ k % 256).toNat]
theorem put_length (n : Int) (k : Nat) : (put n k).length = k := by induction k <;> simp_all [put]
def putB (n : Int) (k : Int) : List UInt8 := if 0 ≤ k ∧ k ≤ 8 then put n k.toNat else []
/-- The number of bytes, the least first. -/
def num : List UInt8 → Int
  | [] => 0
  | b :: l => (b.toNat : Int) + 256 * num l
def get (l : List UInt8) : Int := num (l.take 8)

/-! ### types -/
theorem el5 : ElemOk Try.prog 5 1 1 [.v (.int .u8 0)] := by
  refine ⟨?_, by decide, by decide⟩
  have h : (Try.prog.info? 5).map (fun i => (i.size, i.bytes, i.zero)) = some (1, 1, some (.int .u8 0)) := by kernel_rfl
  obtain ⟨i, hi, he⟩ := Option.map_eq_some_iff.1 h
  simp only [Prod.mk.injEq] at he
  exact ⟨i, .int .u8 0, hi, he.1, he.2.1, he.2.2, rfl, rfl⟩
theorem byte1 (n : Int) : ([[.v (.int .u8 (n % 256))]] : List (List D)) = bytesD [UInt8.ofNat (n % 256).toNat] := by
  simp only [bytesD, List.map_cons, List.map_nil]
  have : ((UInt8.ofNat (n % 256).toNat).toNat : Int) = n % 256 := by simp; omega
  rw [this]
/-! ### le.Put -/
def putSpec : ZSpec := fun args st K => ∃ (n : Int) (k : Int), args = [.v (.int .u64 n), .v (.int .i64 k)] ∧ 0 ≤ n ∧ n < 18446744073709551616 ∧
  ∀ t, st.T t = false → t ≠ 0 → K (.row (bytesD (putB n k)) 1 t) (st.setT t true)


/-! ### le.Get -/
def getSpec : ZSpec := fun args st K => ∃ (l : List UInt8) (tk : Nat), args = [.row (bytesD l) 1 tk] ∧ l.length ≤ 140737488355328 ∧ K (.v (.int .u64 (get l))) st


attribute [irreducible] put putB num get
end Go.Proofs.ZtLe
