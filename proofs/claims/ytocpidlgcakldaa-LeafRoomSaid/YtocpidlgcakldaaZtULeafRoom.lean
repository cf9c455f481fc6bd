/- A part of the proof of LeafRoom: walks of the functions that it reaches. No condition. -/
import Derived.Test.YtocpidlgcakldaaZtLfI
import Derived.Test.YtocpidlgcakldaaZtCv
import Derived.Test.YtocpidlgcakldaaZmAuto
