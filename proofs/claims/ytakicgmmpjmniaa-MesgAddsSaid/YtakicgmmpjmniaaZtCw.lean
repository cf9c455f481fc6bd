/- A part of the proof of MesgAdds: walks of the functions that it reaches. No condition. -/
import Derived.Test.YtakicgmmpjmniaaZtMeL
import Derived.Test.YtakicgmmpjmniaaZmP2
import Derived.Test.YtakicgmmpjmniaaZmAuto
namespace Go.Proofs.ZtLe
open Go.RowKit Go.Proofs Go.Proofs.Zm
/-! ### a law's arguments: whole numbers of 64 bits -/
theorem u64s_of {d : D} (h : CellOk (.slice [.int .u64]) d) : ∃ l : List Int, d = .row (u64R l) 1 0 ∧ ∀ n ∈ l, 0 ≤ n ∧ n < 18446744073709551616 := by
  obtain ⟨xs, rfl, hl, hx⟩ := h.toRow
  obtain ⟨l, rfl, hp⟩ := map_choose (fun b : Int => [.v (.int .u64 b)]) (fun b => 0 ≤ b ∧ b < 18446744073709551616) xs (fun i x h => by
    obtain ⟨d, ds, rfl, h1, h2⟩ := (hx i x h).cons
    obtain rfl := h2.nil
    obtain ⟨n, rfl, h3, h4⟩ := h1.toInt
    simp [IntKind.min, IntKind.max, IntKind.signed, IntKind.bits] at h3 h4
    exact ⟨n, rfl, h3, by omega⟩)
  exact ⟨l, rfl, hp⟩
end Go.Proofs.ZtLe
