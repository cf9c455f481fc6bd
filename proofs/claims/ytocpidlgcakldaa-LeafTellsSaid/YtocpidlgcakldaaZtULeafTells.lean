/- A part of the proof of LeafTells: walks of the functions that it reaches. No condition. -/
import Derived.Test.YtocpidlgcakldaaZtLfG
import Derived.Test.YtocpidlgcakldaaZtCv
import Derived.Test.YtocpidlgcakldaaZtCx
import Derived.Test.YtocpidlgcakldaaZmAuto
