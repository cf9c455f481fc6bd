/- A part of the proof of BuckTells: walks of the functions that it reaches. No condition. -/
import Derived.Test.YtpelekdimmfldaaZtBuC
import Derived.Test.YtpelekdimmfldaaZm26
namespace Go.Proofs.ZtLe
open Go.RowKit Go.Proofs Go.Proofs.Zm
/-- Cells, as a row's text has them. -/
theorem cells_of {d : D} (h : CellOk (.slice [.int .i64, .int .i64, .slice [.int .u8]]) d) : ∃ l : List CellV, d = .row (cellR l) 3 0 ∧ ∀ c ∈ l, -9223372036854775808 ≤ c.1 ∧ c.1 ≤ 9223372036854775807 ∧ -9223372036854775808 ≤ c.2.1 ∧ c.2.1 ≤ 9223372036854775807 := by
  obtain ⟨xs, rfl, hl, hx⟩ := h.toRow
  obtain ⟨l, rfl, hp⟩ := map_choose cellD (fun c => -9223372036854775808 ≤ c.1 ∧ c.1 ≤ 9223372036854775807 ∧ -9223372036854775808 ≤ c.2.1 ∧ c.2.1 ≤ 9223372036854775807) xs (fun i x h => by
    obtain ⟨d1, x1, rfl, h1, k1⟩ := (hx i x h).cons
    obtain ⟨d2, x2, rfl, h2, k2⟩ := k1.cons
    obtain ⟨d3, x3, rfl, h3, k3⟩ := k2.cons
    obtain rfl := k3.nil
    obtain ⟨n1, rfl, a1, b1⟩ := h1.toInt
    obtain ⟨n2, rfl, a2, b2⟩ := h2.toInt
    obtain ⟨b, rfl, _⟩ := h3.toBytes
    simp [IntKind.min, IntKind.max, IntKind.signed, IntKind.bits] at a1 b1 a2 b2
    exact ⟨(n1, n2, b), rfl, by simp only; omega⟩)
  exact ⟨l, rfl, hp⟩
end Go.Proofs.ZtLe
