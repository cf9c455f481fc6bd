/- A part of the proof of PosmPlays: walks of the functions that it reaches. No condition. -/
import Derived.Test.YtpelekdimmfldaaZtPoN
import Derived.Test.YtpelekdimmfldaaZm26
namespace Go.Proofs.ZtLe
open Go.RowKit Go.Proofs Go.Proofs.Zm
/-- Steps, as a row's text has them. -/
theorem steps_of {d : D} (h : CellOk (.slice [.int .i64, .int .i64, .int .i64, .int .u64]) d) : ∃ l : List Stp, d = .row (stepsD l) 4 0 ∧ ∀ s ∈ l, okS s := by
  obtain ⟨xs, rfl, hl, hx⟩ := h.toRow
  obtain ⟨l, rfl, hp⟩ := map_choose stepD okS xs (fun i x h => by
    obtain ⟨d1, x1, rfl, h1, k1⟩ := (hx i x h).cons
    obtain ⟨d2, x2, rfl, h2, k2⟩ := k1.cons
    obtain ⟨d3, x3, rfl, h3, k3⟩ := k2.cons
    obtain ⟨d4, x4, rfl, h4, k4⟩ := k3.cons
    obtain rfl := k4.nil
    obtain ⟨n1, rfl, a1, b1⟩ := h1.toInt
    obtain ⟨n2, rfl, a2, b2⟩ := h2.toInt
    obtain ⟨n3, rfl, a3, b3⟩ := h3.toInt
    obtain ⟨n4, rfl, a4, b4⟩ := h4.toInt
    simp [IntKind.min, IntKind.max, IntKind.signed, IntKind.bits] at a2 b2 a4 b4
    exact ⟨(n1, n2, n3, n4), rfl, by unfold okS; simp only; omega⟩)
  exact ⟨l, rfl, hp⟩
end Go.Proofs.ZtLe
