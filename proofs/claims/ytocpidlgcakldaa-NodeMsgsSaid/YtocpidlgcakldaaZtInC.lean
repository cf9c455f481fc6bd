/- A part of the proof of NodeMsgs: walks of the functions that it reaches. No condition. -/
import Derived.Test.YtocpidlgcakldaaZtInB
import Derived.Test.YtocpidlgcakldaaZmAuto
namespace Go.Proofs.ZtLe
open Go.RowKit Go.Proofs Go.Proofs.Zm
set_option linter.unusedVariables false
set_option linter.unusedSimpArgs false
set_option maxHeartbeats 20000000
set_option maxRecDepth 100000
attribute [local irreducible] ZWp ZOps ZPure ZPure0 ZVal ZOp SoundF

/-! ### inne.Span -/
/-- Keys that are not beyond all bounds. -/
def KB (l : List Bs) : Prop := l.length ≤ 2147483648 ∧ ∀ b ∈ l, b.length ≤ 2147483648
theorem KB.at {l : List Bs} (h : KB l) {i : Nat} {c : Bs} (hc : l[i]? = some c) : c.length ≤ 2147483648 := h.2 _ (List.mem_of_getElem? hc)
def loL (l : List Bs) (k : Nat) : Bs := if k = 0 then [] else l.getD (k - 1) []
def hiL (l : List Bs) (k : Nat) : Bs := l.getD k []
theorem getD_of {α : Type} {l : List α} {i : Nat} {c z : α} (h : l[i]? = some c) : l.getD i z = c := by rw [List.getD_eq_getElem?_getD, h]; rfl
/-! ### the document's way -/
end Go.Proofs.ZtLe
