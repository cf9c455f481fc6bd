/- A part of the proof of NodeMsgs: walks of the functions that it reaches. No condition. -/
import Derived.Test.YtocpidlgcakldaaZtInA
import Derived.Test.YtocpidlgcakldaaZmP2
import Derived.Test.YtocpidlgcakldaaZmAuto
namespace Go.Proofs.ZtLe
open Go.RowKit Go.Proofs Go.Proofs.Zm
/-! ### a law's arguments: messages -/
theorem msg_of {ds : List D} (h : CellsOkR [.int .i64, .slice [.int .u8], .slice [.int .u8]] ds) : ∃ m : MsgV, ds = msgD m ∧ (-9223372036854775808 ≤ m.1 ∧ m.1 ≤ 9223372036854775807) ∧ m.2.1.length ≤ 140737488351232 ∧ m.2.2.length ≤ 140737488351232 := by
  obtain ⟨d1, x1, rfl, h1, k1⟩ := h.cons
  obtain ⟨d2, x2, rfl, h2, k2⟩ := k1.cons
  obtain ⟨d3, x3, rfl, h3, k3⟩ := k2.cons
  obtain rfl := k3.nil
  obtain ⟨n1, rfl, a1, b1⟩ := h1.toInt
  obtain ⟨b2, rfl, l2⟩ := h2.toBytes
  obtain ⟨b3, rfl, l3⟩ := h3.toBytes
  simp [IntKind.min, IntKind.max, IntKind.signed, IntKind.bits] at a1 b1
  exact ⟨(n1, b2, b3), rfl, ⟨a1, b1⟩, l2, l3⟩
end Go.Proofs.ZtLe
