/- A part of the proof of LeafDeletes: walks of the functions that it reaches. No condition. -/
import Derived.Test.YtocpidlgcakldaaZtLfD
import Derived.Test.YtocpidlgcakldaaZtCv
import Derived.Test.YtocpidlgcakldaaZmAuto
