/- A part of the proof of BuckBack: walks of the functions that it reaches. No condition. -/
import Derived.Test.YtpelekdimmfldaaZtBuI
import Derived.Test.YtpelekdimmfldaaZtBuR
namespace Go.Proofs.ZtLe
end Go.Proofs.ZtLe
