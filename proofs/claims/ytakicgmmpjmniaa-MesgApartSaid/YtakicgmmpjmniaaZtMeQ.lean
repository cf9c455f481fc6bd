/- A part of the proof of MesgApart: walks of the functions that it reaches. No condition. -/
import Derived.Test.YtakicgmmpjmniaaZtMeP
import Derived.Test.YtakicgmmpjmniaaZtMeG
import Derived.Test.YtakicgmmpjmniaaZmAuto
namespace Go.Proofs.ZtLe
open Go.RowKit Go.Proofs Go.Proofs.Zm
set_option linter.unusedVariables false
set_option linter.unusedSimpArgs false
set_option maxHeartbeats 20000000
set_option maxRecDepth 100000
attribute [local irreducible] ZWp ZOps ZPure ZPure0 ZVal ZOp SoundF

/-! ### MesgTells -/
theorem PairsV.pb {p : List PairV} (h : PairsV p) : ∀ q ∈ p, PB q := fun q hq => by
  have := h.b q hq
  exact ⟨by omega, by omega⟩
theorem MsgsV.mb {l : List MsgV} (h : MsgsV l) : ∀ m ∈ l, MB m := fun q hq => by
  have := (h.b q hq).2
  exact ⟨by omega, by omega⟩
theorem applyL_len (p : List PairV) (l : List MsgV) : (applyL p l).length ≤ p.length + l.length := by
  induction l generalizing p with
  | nil => simp [applyL]
  | cons m l ih =>
    have h1 := ih (oneL p m)
    have h2 := oneL_len p m
    show (applyL (oneL p m) l).length ≤ _
    rw [List.length_cons]
    omega
def tellsSpecM : ZSpec := fun args st K => ∃ (raw : List MsgV) (c : CfgV) (l m : List Int) (val : Bs) (there : Bool) (a b : Bs) (tr tl tm tv ta tb : Nat), args = [.row (msgR raw) 3 tr, .agg (cfgD c), .row (intR l) 1 tl, .row (intR m) 1 tm, .row (bytesD val) 1 tv, .v (.bool there), .row (bytesD a) 1 ta, .row (bytesD b) 1 tb] ∧ raw.length ≤ 140737488351232 ∧ (∀ m ∈ raw, m.2.1.length ≤ 140737488351232 ∧ m.2.2.length ≤ 140737488351232) ∧ l.length ≤ 140737488351232 ∧ m.length ≤ 140737488351232 ∧ val.length ≤ 140737488351232 ∧ a.length ≤ 140737488351232 ∧ b.length ≤ 140737488351232 ∧ K (.v (.bool true)) st
end Go.Proofs.ZtLe
