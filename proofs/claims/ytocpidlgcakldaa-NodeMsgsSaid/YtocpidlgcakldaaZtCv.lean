/- A part of the proof of NodeMsgs: walks of the functions that it reaches. No condition. -/
import Derived.Test.YtocpidlgcakldaaZtInR
import Derived.Test.YtocpidlgcakldaaZmP2
import Derived.Test.YtocpidlgcakldaaZmAuto
namespace Go.Proofs.ZtLe
open Go.RowKit Go.Proofs Go.Proofs.Zm
set_option linter.unusedVariables false
set_option maxHeartbeats 20000000
set_option maxRecDepth 100000
attribute [local irreducible] ZWp ZOps ZPure ZPure0 ZVal ZOp SoundF

/-! ### a law's arguments -/
theorem cfg_of {ds : List D} (h : CellsOk [.int .i64, .int .i64, .int .i64, .int .i64, .int .i64, .int .i64, .int .i64, .int .i64, .int .i64, .float] ds) : ∃ c : CfgV, ds = cfgD c ∧ True := by
  obtain ⟨d0, r0, rfl, h0, h⟩ := h.cons
  obtain ⟨d1, r1, rfl, h1, h⟩ := h.cons
  obtain ⟨d2, r2, rfl, h2, h⟩ := h.cons
  obtain ⟨d3, r3, rfl, h3, h⟩ := h.cons
  obtain ⟨d4, r4, rfl, h4, h⟩ := h.cons
  obtain ⟨d5, r5, rfl, h5, h⟩ := h.cons
  obtain ⟨d6, r6, rfl, h6, h⟩ := h.cons
  obtain ⟨d7, r7, rfl, h7, h⟩ := h.cons
  obtain ⟨d8, r8, rfl, h8, h⟩ := h.cons
  obtain ⟨d9, r9, rfl, h9, h⟩ := h.cons
  obtain rfl := h.nil
  obtain ⟨n0, rfl, _⟩ := h0.toInt
  obtain ⟨n1, rfl, _⟩ := h1.toInt
  obtain ⟨n2, rfl, _⟩ := h2.toInt
  obtain ⟨n3, rfl, _⟩ := h3.toInt
  obtain ⟨n4, rfl, _⟩ := h4.toInt
  obtain ⟨n5, rfl, _⟩ := h5.toInt
  obtain ⟨n6, rfl, _⟩ := h6.toInt
  obtain ⟨n7, rfl, _⟩ := h7.toInt
  obtain ⟨n8, rfl, _⟩ := h8.toInt
  obtain ⟨n9, rfl, _⟩ := h9.toFloat
  exact ⟨⟨n0, n1, n2, n3, n4, n5, n6, n7, n8, n9⟩, rfl, trivial⟩
end Go.Proofs.ZtLe
