/- A part of the proof of MesgTells: walks of the functions that it reaches. No condition. -/
import Derived.Test.YtakicgmmpjmniaaZtMeQ
import Derived.Test.YtakicgmmpjmniaaZtCv
import Derived.Test.YtakicgmmpjmniaaZtCx
import Derived.Test.YtakicgmmpjmniaaZmAuto
