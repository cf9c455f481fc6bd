/- A part of the proof of LeafBuilds: walks of the functions that it reaches. No condition. -/
import Derived.Test.YtocpidlgcakldaaZtMeN
import Derived.Test.YtocpidlgcakldaaZmAuto
namespace Go.Proofs.ZtLe
open Go.RowKit Go.Proofs Go.Proofs.Zm
set_option linter.unusedVariables false
set_option linter.unusedSimpArgs false
set_option maxHeartbeats 20000000
set_option maxRecDepth 100000
attribute [local irreducible] ZWp ZOps ZPure ZPure0 ZVal ZOp SoundF

/-! ### dumbwaiterref18: Set (as a pure call), Of, Fold, Apply -/
theorem set_pf {p : List PairV} {k v : Bs} {there : Bool} {tp tk tv : Nat} (h : p.length ≤ 1000000) : PureF Try.prog 66 [.row (pairR p) 2 tp, .row (bytesD k) 1 tk, .row (bytesD v) 1 tv, .v (.bool there)] (.row (pairR (setL p k v there)) 2 0) :=
  PureF.ofOwn fun st K hK => ⟨_, set_own, p, k, v, there, tp, tk, tv, rfl, h, fun o c f st' hS hg => by
    obtain ⟨e1, k1⟩ := OR.mk_ok (by decide) hg rfl (pairR_two _)
    refine hK [⟨o, f, 2, c, pairR (setL p k v there)⟩] st' _ hS (fun r hr => ?_) fun G hr => ?_
    · simp only [List.mem_cons, List.not_mem_nil, or_false] at hr
      subst hr; assumption
    · have r1 := hr _ (.head _)
      unfold OR.own OR.row at r1
      simp only at r1
      rw [e1] at r1
      exact r1⟩
end Go.Proofs.ZtLe
