/- A part of the proof of NodeMsgs: walks of the functions that it reaches. No condition. -/
import Derived.Test.YtocpidlgcakldaaZtMeC
import Derived.Test.YtocpidlgcakldaaZtInG
import Derived.Test.YtocpidlgcakldaaZmAuto
namespace Go.Proofs.ZtLe
open Go.RowKit Go.Proofs Go.Proofs.Zm
set_option linter.unusedVariables false
set_option linter.unusedSimpArgs false
set_option maxHeartbeats 20000000
set_option maxRecDepth 100000
attribute [local irreducible] ZWp ZOps ZPure ZPure0 ZVal ZOp SoundF

/-! ### pairs in own memory -/
def keysP (ps : List PairV) : List Bs := ps.map (·.1)
theorem keysP_length (ps : List PairV) : (keysP ps).length = ps.length := by simp [keysP]
theorem pairR_flat_length (l : List PairV) : (pairR l).flatten.length = l.length * 2 := by
  rw [flatten_len (pairR l) (pairR_two l), pairR_length]
end Go.Proofs.ZtLe
