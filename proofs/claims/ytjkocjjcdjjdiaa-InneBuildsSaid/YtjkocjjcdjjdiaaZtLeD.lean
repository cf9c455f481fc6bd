/- A part of the proof of InneBuilds: walks of the functions that it reaches. No condition. -/
import Derived.Test.YtjkocjjcdjjdiaaZtLeC
import Derived.Test.YtjkocjjcdjjdiaaZmAuto
namespace Go.Proofs.ZtLe
open Go.RowKit Go.Proofs Go.Proofs.Zm
set_option linter.unusedVariables false
set_option linter.unusedSimpArgs false
set_option maxHeartbeats 20000000
set_option maxRecDepth 100000
attribute [local irreducible] ZWp ZOps ZPure ZPure0 ZVal ZOp SoundF

/-! ### dumbwaiterref1.Same -/
def sameSpec : ZSpec := fun args st K => ∃ (l m : List UInt8) (tk tm : Nat), args = [.row (bytesD l) 1 tk, .row (bytesD m) 1 tm] ∧ K (.v (.bool (l == m))) st
theorem same_snd : SoundF Try.prog 13 sameSpec := by
  refine sound_of Try.func13 rfl Try.results13 ?_
  rintro w0 args st K ⟨l, m, tk, tm, rfl, hK⟩
  rw [Try.ntmps13]; refine ⟨by simp, ?_⟩
  (repeat (first | ((with_reducible apply zr_seq)) | ((with_reducible apply zr_region); (try simp only [List.append_eq, List.cons_append, List.nil_append])) | ((with_reducible apply zo_end)) | ((with_reducible apply zs_move); (exact rfl); (exact rfl)) | ((with_reducible apply zs_assign); (exact rfl); (exact rfl))))
  (try ((with_reducible apply zs_yes); exact rfl; exact rfl; (first | assumption | exact rfl))); refine zo_pure rfl rfl (by decide) (zp_toStr rfl zq34 Try.underlying5 Try.underlying9 rfl) ?_
  (repeat (first | ((with_reducible apply zs_move); (exact rfl); (exact rfl))))
  (try ((with_reducible apply zs_yes); exact rfl; exact rfl; (first | assumption | exact rfl))); refine zo_pure rfl rfl (by decide) (zp_toStr rfl zq34 Try.underlying5 Try.underlying9 rfl) ?_
  (try ((with_reducible apply zs_yes); exact rfl; exact rfl; (first | assumption | exact rfl))); refine zo_pure0 rfl rfl (by decide) (zp_str rfl rfl rfl (.inl ⟨rfl, rfl⟩)) ?_
  (repeat (first | ((with_reducible apply zo_end)) | ((with_reducible apply zs_assign); (exact rfl); (exact rfl))))
  refine zr_retZ rfl (resD_tmp rfl (resD_nil _ _ _)) ?_
  simpa [resOf] using hK

/-! ### dumbwaiterref1.Put -/
/-! ### dumbwaiterref1.Get -/
/-! ### dumbwaiterref1.Pad -/

/-! ### dumbwaiterref1.Unpad -/

end Go.Proofs.ZtLe
