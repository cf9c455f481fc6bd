/- A part of the proof of BuckTurned: walks of the functions that it reaches. No condition. -/
import Derived.Test.YtpelekdimmfldaaZtBuF
import Derived.Test.YtpelekdimmfldaaZtBuR
namespace Go.Proofs.ZtLe
end Go.Proofs.ZtLe
