/- A part of the proof of LeafBuilds: walks of the functions that it reaches. No condition. -/
import Derived.Test.YtocpidlgcakldaaZtLfE
import Derived.Test.YtocpidlgcakldaaZtCv
import Derived.Test.YtocpidlgcakldaaZmAuto
