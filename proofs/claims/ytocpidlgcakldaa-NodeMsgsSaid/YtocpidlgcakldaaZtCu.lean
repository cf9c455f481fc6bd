/- A part of the proof of NodeMsgs: walks of the functions that it reaches. No condition. -/
import Derived.Test.YtocpidlgcakldaaZtInA
import Derived.Test.YtocpidlgcakldaaZmP2
import Derived.Test.YtocpidlgcakldaaZmAuto
namespace Go.Proofs.ZtLe
open Go.RowKit Go.Proofs Go.Proofs.Zm
/-! ### a law's arguments: bytes -/
theorem u8_is {n : Int} (h : 0 ≤ n ∧ n ≤ 255) : ∃ y : UInt8, n = ((y.toNat : Nat) : Int) := by
  refine ⟨UInt8.ofNat n.toNat, ?_⟩
  rw [UInt8.toNat_ofNat_of_lt' (by show _ < 256; omega)]
  omega
end Go.Proofs.ZtLe
