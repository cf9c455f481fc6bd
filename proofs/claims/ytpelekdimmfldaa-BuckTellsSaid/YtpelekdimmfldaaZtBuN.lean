/- A part of the proof of BuckTells: walks of the functions that it reaches. No condition. -/
import Derived.Test.YtpelekdimmfldaaZtBuM
import Derived.Test.YtpelekdimmfldaaZtBuR
namespace Go.Proofs.ZtLe
end Go.Proofs.ZtLe
