/- A part of the proof of MesgApart: walks of the functions that it reaches. No condition. -/
import Derived.Test.YtakicgmmpjmniaaZtMeT
import Derived.Test.YtakicgmmpjmniaaZtCv
import Derived.Test.YtakicgmmpjmniaaZmAuto
