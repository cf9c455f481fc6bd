/- A part of the proof of MesgForms: walks of the functions that it reaches. No condition. -/
import Derived.Test.YtakicgmmpjmniaaZtInJ
import Derived.Test.YtakicgmmpjmniaaZmP2
import Derived.Test.YtakicgmmpjmniaaZmAuto
namespace Go.Proofs.ZtLe
open Go.RowKit Go.Proofs Go.Proofs.Zm
set_option linter.unusedVariables false
set_option linter.unusedSimpArgs false
set_option maxHeartbeats 20000000
set_option maxRecDepth 100000
attribute [local irreducible] ZWp ZOps ZPure ZPure0 ZVal ZOp SoundF

/-! ### floats -/
theorem ext_from : ExtIs Try.prog 49 Extern.MathFloatBits.float64frombits := ⟨_, Try.func49, by kernel_rfl, by kernel_rfl, by kernel_rfl, by kernel_rfl⟩
theorem ext_bits : ExtIs Try.prog 47 Extern.MathFloatBits.float64bits := ⟨_, Try.func47, by kernel_rfl, by kernel_rfl, by kernel_rfl, by kernel_rfl⟩
theorem rput_pf {n : Int} {k : Int} (h : 0 ≤ n ∧ n < 18446744073709551616) : PureF Try.prog 46 [.v (.int .u64 n), .v (.int .i64 k)] (.row (bytesD (putB n k)) 1 0) :=
  PureF.ofOwn fun st K hK => ⟨_, rput_snd, n, k, rfl, h.1, h.2, fun t ht ht0 => hK [] _ _ ⟨(Ext.refl _).setT t, fun _ _ h => (by cases h), fun _ _ h => (by cases h), List.nodup_nil⟩ (fun r hr => by simp at hr) fun G hr u hu => hu.notok⟩
/-! ### dumbwaiterlaw18.Key -/
def keySpec : ZSpec := fun args st K => ∃ (n most : Int), args = [.v (.int .i64 n), .v (.int .i64 most)] ∧ 0 ≤ most ∧ most ≤ 4611686018427387904 ∧ ∀ (l : Bs) t, l.length ≤ 2 → (l.length : Int) ≤ most → st.T t = false → t ≠ 0 → K (.row (bytesD l) 1 t) (st.setT t true)
end Go.Proofs.ZtLe
