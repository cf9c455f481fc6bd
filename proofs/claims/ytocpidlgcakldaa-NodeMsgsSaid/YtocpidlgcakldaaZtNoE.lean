/- A part of the proof of NodeMsgs: walks of the functions that it reaches. No condition. -/
import Derived.Test.YtocpidlgcakldaaZtNoD
import Derived.Test.YtocpidlgcakldaaZmAuto
namespace Go.Proofs.ZtLe
open Go.RowKit Go.Proofs Go.Proofs.Zm
set_option linter.unusedVariables false
set_option linter.unusedSimpArgs false
set_option maxHeartbeats 20000000
set_option maxRecDepth 100000
attribute [local irreducible] ZWp ZOps ZPure ZPure0 ZVal ZOp SoundF

/-! ### dumbwaiterref18.NodeOk -/
theorem leafG_eq {c : CfgV} {n : NodeV} (hv : n.vals.any (longV c) = false) : leafG c n = (decide (((n.keys.length : Nat) : Int) ≤ c.l) && decide (((n.vals.length : Nat) : Int) = (n.keys.length : Nat)) && decide (((n.kids.length : Nat) : Int) = 0) && decide (((n.msgs.length : Nat) : Int) = 0)) := by
  unfold leafG
  rw [hv, Bool.eq_iff_iff]
  simp only [Bool.and_eq_true, decide_eq_true_eq, Bool.not_false, and_true]
  omega
theorem leafG_f {c : CfgV} {n : NodeV} (hv : n.vals.any (longV c) = true) : leafG c n = false := by unfold leafG; rw [hv]; simp
theorem innerG_eq {c : CfgV} {n : NodeV} (h1 : n.kids.any badKid = false) (h2 : n.msgs.any (badMsg c) = false) : innerG c n = (decide (1 ≤ ((n.kids.length : Nat) : Int)) && decide (((n.kids.length : Nat) : Int) ≤ c.f) && decide (((n.keys.length : Nat) : Int) = ((n.kids.length : Nat) : Int) - 1) && decide (((n.vals.length : Nat) : Int) = 0) && decide (((n.msgs.length : Nat) : Int) ≤ c.m)) := by
  unfold innerG; rw [h1, h2]; simp
theorem innerG_f1 {c : CfgV} {n : NodeV} (h : n.kids.any badKid = true) : innerG c n = false := by unfold innerG; rw [h]; simp
theorem innerG_f2 {c : CfgV} {n : NodeV} (h : n.msgs.any (badMsg c) = true) : innerG c n = false := by unfold innerG; rw [h]; simp
theorem goodN_r {c : CfgV} {n : NodeV} (h : risingB c n.keys = false) : goodN c n = false := by unfold goodN; rw [h]; rfl
theorem goodN_l {c : CfgV} {n : NodeV} (h : risingB c n.keys = true) (hl : n.leaf = true) : goodN c n = leafG c n := by unfold goodN; rw [h, hl]; rfl
theorem goodN_i {c : CfgV} {n : NodeV} (h : risingB c n.keys = true) (hl : n.leaf = false) : goodN c n = innerG c n := by unfold goodN; rw [h, hl]; rfl
theorem any_hit {α : Type} {p : α → Bool} {l : List α} {i : Nat} {x : α} (h : l[i]? = some x) (hp : p x = true) : l.any p = true := List.any_eq_true.2 ⟨x, List.mem_of_getElem? h, hp⟩
theorem any_none {α : Type} {p : α → Bool} {l : List α} (h : ∀ y ∈ l, p y = false) : l.any p = false := by
  rw [List.any_eq_false]; exact fun y hy => by rw [h y hy]; simp
end Go.Proofs.ZtLe
