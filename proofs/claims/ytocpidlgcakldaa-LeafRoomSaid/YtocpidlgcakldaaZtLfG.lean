/- A part of the proof of LeafRoom: walks of the functions that it reaches. No condition. -/
import Derived.Test.YtocpidlgcakldaaZtLfF
import Derived.Test.YtocpidlgcakldaaZtMeO
import Derived.Test.YtocpidlgcakldaaZmAuto
namespace Go.Proofs.ZtLe
open Go.RowKit Go.Proofs Go.Proofs.Zm
set_option linter.unusedVariables false
set_option linter.unusedSimpArgs false
set_option maxHeartbeats 20000000
set_option maxRecDepth 100000
attribute [local irreducible] ZWp ZOps ZPure ZPure0 ZVal ZOp SoundF

/-! ### LeafTells -/
theorem takeA_t {L : Nat} {a : List PairV} (h : L < a.length) : takeA L a = leafN (a.take ((a.length + 1) / 2)) := by unfold takeA; rw [if_neg (by omega)]
theorem takeB_t {L : Nat} {a : List PairV} (h : L < a.length) : takeB L a = leafN (a.drop ((a.length + 1) / 2)) := by unfold takeB; rw [if_neg (by omega)]
theorem takeP_t {L : Nat} {a : List PairV} (h : L < a.length) : takeP L a = (a.getD ((a.length + 1) / 2) ([], [])).1 := by unfold takeP; rw [if_neg (by omega)]
theorem takeA_f {L : Nat} {a : List PairV} (h : ¬ L < a.length) : takeA L a = leafN a := by unfold takeA; rw [if_pos (by omega)]
theorem takeB_f {L : Nat} {a : List PairV} (h : ¬ L < a.length) : takeB L a = noNode := by unfold takeB; rw [if_pos (by omega)]
theorem takeP_f {L : Nat} {a : List PairV} (h : ¬ L < a.length) : takeP L a = [] := by unfold takeP; rw [if_pos (by omega)]
def tells21 : ZSpec := fun args st K => ∃ (c : CfgV) (l m : List Int) (raw : List MsgV) (q : List Int) (tl tm tr tq : Nat), args = [.agg (cfgD c), .row (intR l) 1 tl, .row (intR m) 1 tm, .row (msgR raw) 3 tr, .row (intR q) 1 tq] ∧ l.length ≤ 140737488351232 ∧ m.length ≤ 140737488351232 ∧ raw.length ≤ 140737488351232 ∧ (∀ m ∈ raw, m.2.1.length ≤ 140737488351232 ∧ m.2.2.length ≤ 140737488351232) ∧ q.length ≤ 140737488351232 ∧ K (.v (.bool true)) st
end Go.Proofs.ZtLe
