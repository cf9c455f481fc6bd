/- A part of the proof of NodeMsgs: walks of the functions that it reaches. No condition. -/
import Derived.Test.YtocpidlgcakldaaZtNoM
import Derived.Test.YtocpidlgcakldaaZtCv
import Derived.Test.YtocpidlgcakldaaZtCx
import Derived.Test.YtocpidlgcakldaaZtCu
import Derived.Test.YtocpidlgcakldaaZmAuto
